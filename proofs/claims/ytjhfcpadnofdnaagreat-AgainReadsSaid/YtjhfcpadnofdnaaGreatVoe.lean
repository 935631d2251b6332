/- The frag of the node 0, of a tree of one node: valid.first, seq.first; valid.frag, valid.holds. -/
import Derived.Test.YtjhfcpadnofdnaaGreatVod
set_option linter.unusedSimpArgs false
set_option linter.unusedVariables false
namespace Go.Proofs.YtjhfcpadnofdnaaGreat
open Go.RowKit
attribute [local go_sem] block_of_add
section
variable {P : Program} {ops : Array Oper} {md : Region.Mode} {T : Bool → Bool → Value → World → Prop} {k m q : Nat}
theorem gives_stay {i : Nat} {o : Oper} {a : Act} (X : World → World) (hw : Region.wanted o (yielded ops a.tmps) = true) (hc : ∀ b d u w, T b d u w → (execOp a.eval o).run P w = .ok .skip (X w)) (hT : ∀ b d u w, T b d u w → T b d u (X w)) : Gives P md ops (SK T k m q) i o undef a :=
  .inl ⟨hw, fun L a0 w _ _ hS => by rw [hc _ _ _ w hS]; exact ⟨rfl, hT _ _ _ _ hS⟩⟩
end
section
variable {ga gN gC gU gH gF gK : Nat} {v uw : Int} {w : World}
theorem cut_in {n : Int} (h : 0 ≤ n ∧ n ≤ 1099511627776) : cutF n = n ∧ cutB n = false := by
  unfold cutF cutB
  have h1 : ¬ n > 1099511627776 := by omega
  have h2 : ¬ n < -1099511627776 := by omega
  simp [h1, h2]
theorem res_0 (c : Int) : resF ln0 c = (0, false) := by rfl
theorem vres_call (c : Int) (hc : CB c) (W : World) : Calls Tryz.prog 179 #[.agg #[.int .u8 0, .int .i64 0], .int .i64 c] W fun e w' => e = .returned (.tuple #[.int .i64 0, .bool false]) ∧ Below W.heap.size W w' := by
  have h := pres_b ln0 c W lnM0 hc
  rw [res_0] at h
  exact h
set_option maxHeartbeats 1000000 in
theorem vcut_one (n : Int) (hn : 0 ≤ n ∧ n ≤ 1099511627776) (g3 : Nat) (W : World) (b3 : Blk W g3 4 #[.bool false]) : Calls Tryz.prog 178 #[.int .i64 n, .pointer (some ⟨g3, 0, none⟩)] W fun e w' => e = .returned (.int .i64 n) ∧ W.setCell ⟨g3, 0, none⟩ (.bool false) = w' := by
  have HC := Lib.hid (cut_any n W)
  rw [(cut_in hn).1, (cut_in hn).2] at HC
  have z0 := b3.get 0 rfl
  have zl := b3.lt
  have zf := b3.frozen 0
  clear b3 hn
  go_enter Tryz.func178, Tryz.ntmps178
  go_wp2_with fail
  refine HC.out.mono ?_
  rintro e w1 ⟨rfl, rfl⟩
  go_wp2_with fail
  go_ret
  exact ⟨rfl, rfl⟩
set_option maxHeartbeats 1000000 in
theorem scut_one (n : Int) (hn : 0 ≤ n ∧ n ≤ 1099511627776) (g3 : Nat) (W : World) (b3 : Blk W g3 4 #[.bool false]) : Calls Tryz.prog 252 #[.int .i64 n, .pointer (some ⟨g3, 0, none⟩)] W fun e w' => e = .returned (.int .i64 n) ∧ W.setCell ⟨g3, 0, none⟩ (.bool false) = w' := by
  have HC := Lib.hid (cut_any n W)
  rw [(cut_in hn).1, (cut_in hn).2] at HC
  have z0 := b3.get 0 rfl
  have zl := b3.lt
  have zf := b3.frozen 0
  clear b3 hn
  go_enter Tryz.func252, Tryz.ntmps252
  go_wp2_with fail
  refine HC.out.mono ?_
  rintro e w1 ⟨rfl, rfl⟩
  go_wp2_with fail
  go_ret
  exact ⟨rfl, rfl⟩
set_option maxRecDepth 100000 in
set_option maxHeartbeats 8000000 in
theorem vfirst_one (hc : CB v) (hu : 0 ≤ uw ∧ uw ≤ 1099511627776) (q : AskV ga gN gC gU gH gF gK v uw w) : Calls Tryz.prog 104 #[.pointer (some ⟨ga, 0, none⟩)] w fun e w' => e = .returned (.tuple #[.agg #[.int .i64 0, .int .i64 0, .int .i64 uw, .int .i64 0, .slice none 0 0], .bool false]) ∧ Below w.heap.size w w' := by
  have HA : Hid (∀ W', Below w.heap.size w W' → AskV ga gN gC gU gH gF gK v uw W') := Lib.hid (fun W' h => q.below h)
  have HNN := Lib.hid (fun W' (h : Below w.heap.size w W') => (HA.out W' h).n)
  have HRES := Lib.hid (fun W => vres_call v hc W)
  have HFR := Lib.hid (fun W => frame_any (styK 1 0) W (styK_BV 1 0))
  have HU := Lib.hid hu
  have hwu : IntKind.i64.wrap (uw + 0) = uw := by rw [Int.add_zero]; exact IntWalk.i64_in _ ⟨by omega, by omega⟩
  have hwu' : IntKind.i64.wrap uw = uw := by exact IntWalk.i64_in _ ⟨by omega, by omega⟩
  have HO := Lib.hid (Sty.one (styK 1 0) (A := none) (n := 0) (c := 0) rfl)
  have a0 := q.a.get 0 rfl
  have a4 := q.a.get 4 rfl
  have la := q.a.lt
  have ln := q.n.lt
  have HC : Hid (∀ o o2 : Obj, ((w.alloc o).alloc o2).rangeAt gN 1 (styCells (styK 1 0))) := Lib.hid (fun o o2 => sty1V_rng ((q.n.alloc o).alloc o2))
  obtain ⟨w1, hw1⟩ : ∃ W, W = ((w.alloc (.cells #[.int .i64 0, .int .i64 0, .int .i64 0, .int .i64 0, .slice none 0 0] 43)).alloc (.cells #[.bool false] 4)) := ⟨_, rfl⟩
  obtain ⟨w2, hw2⟩ : ∃ W, W = w1.alloc (.cells (styCells (styK 1 0)).toArray 67) := ⟨_, rfl⟩
  obtain ⟨w5, hw5⟩ : ∃ W, W = w2.alloc (.cells #[.int .i64 uw, .int .i64 0, .int .i64 0] 40) := ⟨_, rfl⟩
  have s1 : w1.heap.size = w.heap.size + 1 + 1 := by rw [hw1]; simp
  have s2 : w2.heap.size = w.heap.size + 1 + 1 + 1 := by rw [hw2]; simp [s1]
  have HB1 : Hid (Below w.heap.size w w1) := Lib.hid (by rw [hw1]; exact ((Below.refl _ _).alloc (Nat.le_refl _) _).alloc (by simp) _)
  have HB2 : Hid (Below w.heap.size w w2) := Lib.hid (by rw [hw2]; exact HB1.out.alloc HB1.out.size _)
  have HB5 : Hid (Below w.heap.size w w5) := Lib.hid (by rw [hw5]; exact HB2.out.alloc HB2.out.size _)
  have HG5 : Hid (Blk w5 w.heap.size 43 #[.int .i64 0, .int .i64 0, .int .i64 0, .int .i64 0, .slice none 0 0] ∧ Blk w5 (w.heap.size + 1) 4 #[.bool false] ∧ Blk w5 (w.heap.size + 1 + 1 + 1) 40 #[.int .i64 uw, .int .i64 0, .int .i64 0] ∧ Blk w5 (w.heap.size + 1 + 1) 67 (styCells (styK 1 0)).toArray) := Lib.hid (by
    rw [hw5, hw2, hw1]
    exact ⟨(((Blk.new _ _ _).alloc _).alloc _).alloc _, ((Blk.at_ _ _ _ (by simp)).alloc _).alloc _, Blk.at_ _ _ _ (by simp), (Blk.at_ _ _ _ (by simp)).alloc _⟩)
  have HS2 : Hid (w2.rangeAt gN 1 (styCells (styK 1 0))) := Lib.hid (sty1V_rng (HNN.out _ HB2.out))
  have HC1 : Hid (w1.rangeAt gN 1 (styCells (styK 1 0))) := Lib.hid (sty1V_rng (HNN.out _ HB1.out))
  have c0 := (HA.out _ HB2.out).a.get 0 rfl
  have c4 := (HA.out _ HB2.out).a.get 4 rfl
  have cl := (HA.out _ HB2.out).a.lt
  have u0 := (HA.out _ HB2.out).u.get 0 rfl
  have u1 := (HA.out _ HB2.out).u.get 1 rfl
  have u2 := (HA.out _ HB2.out).u.get 2 rfl
  have ul := (HA.out _ HB2.out).u.lt
  have HW := Lib.hid (And.intro hw1 (And.intro hw2 hw5))
  clear q hc hu
  go_enter Tryz.func104, Tryz.ntmps104
  go_upto_region 1 with (fail)
  rw [← hw1]
  have b0 := (HA.out _ HB1.out).a.get 0 rfl
  have bl := (HA.out _ HB1.out).a.lt
  have bn := (HNN.out _ HB1.out).lt
  clear a0 a4 la ln hw1 hw2 hw5
  go_upto_region 2 with (first
    | refine wpList_load_mid rfl 67 _ rfl gN 1 rfl (styCells (styK 1 0)) _ HC1.out Tryz.underlying67 rfl (by kernel_rfl) ?_
    | refine wpList_store_new rfl 67 _ _ rfl (w.heap.size + 1 + 1) (by simp [s1]) (styCells (styK 1 0)).toArray rfl rfl 67 _ (by kernel_rfl) rfl HO.out ?_)
  rw [← HW.out.2.1]
  clear b0 bl bn
  go_upto_region 4 with (fail)
  rw [← HW.out.2.2]
  try rw [s1]
  try rw [s2]
  clear c0 c4 cl u0 u1 u2 ul s1 s2
  have y16 : w5.cell? ⟨w.heap.size + 1 + 1, 16, none⟩ = some (.int .u8 0) := HG5.out.2.2.2.get 16 rfl
  have y17 : w5.cell? ⟨w.heap.size + 1 + 1, 17, none⟩ = some (.int .i64 0) := HG5.out.2.2.2.get 17 rfl
  have E0 : Below w5.heap.size w5 w5.drew := (Below.refl _ _).drew
  refine wp_region_held_drew (S := fun W => Below w5.heap.size w5 W) (by kernel_rfl) E0 (fun hS => ?_)
  refine wpAnyH_take (i := 0) (v := ?_) rfl (by kernel_rfl) (by kernel_rfl) (by kernel_rfl) (fun _ _ _ h => h) (Or.inl ⟨by rfl, ?_⟩) hS ?_
  rotate_left
  · intro W' hS'
    have q := HA.out _ (HB5.out.trans (hS'.mono HB5.out.size))
    have a2 := q.a.get 2 rfl
    have la := q.a.lt
    have q4 := HG5.out.2.2.2.below hS' HG5.out.2.2.2.lt
    have y16 : W'.cell? ⟨w.heap.size + 1 + 1, 16, none⟩ = some (.int .u8 0) := q4.get 16 rfl
    have y17 : W'.cell? ⟨w.heap.size + 1 + 1, 17, none⟩ = some (.int .i64 0) := q4.get 17 rfl
    have yl := q4.lt
    clear q q4
    go_simp
    rfl
  try simp only [Act.put, List.setIfInBounds_toArray, List.set_cons_zero, List.set_cons_succ, List.getElem_toArray, List.getElem_cons_zero, List.getElem_cons_succ]
  refine wpAnyH_take (i := 1) (v := ?_) rfl (by kernel_rfl) (by kernel_rfl) (by kernel_rfl) (fun _ _ _ h => h) (Or.inl ⟨by rfl, ?_⟩) hS ?_
  rotate_left
  · intro W' hS'
    have q := HA.out _ (HB5.out.trans (hS'.mono HB5.out.size))
    have a2 := q.a.get 2 rfl
    have la := q.a.lt
    have q4 := HG5.out.2.2.2.below hS' HG5.out.2.2.2.lt
    have y16 : W'.cell? ⟨w.heap.size + 1 + 1, 16, none⟩ = some (.int .u8 0) := q4.get 16 rfl
    have y17 : W'.cell? ⟨w.heap.size + 1 + 1, 17, none⟩ = some (.int .i64 0) := q4.get 17 rfl
    have yl := q4.lt
    clear q q4
    go_simp
    rfl
  try simp only [Act.put, List.setIfInBounds_toArray, List.set_cons_zero, List.set_cons_succ, List.getElem_toArray, List.getElem_cons_zero, List.getElem_cons_succ]
  refine wpAnyH_take (i := 2) (v := ?_) rfl (by kernel_rfl) (by kernel_rfl) (by kernel_rfl) (fun _ _ _ h => h) (Or.inl ⟨by rfl, ?_⟩) hS ?_
  rotate_left
  · intro W' hS'
    have q := HA.out _ (HB5.out.trans (hS'.mono HB5.out.size))
    have a2 := q.a.get 2 rfl
    have la := q.a.lt
    have q4 := HG5.out.2.2.2.below hS' HG5.out.2.2.2.lt
    have y16 : W'.cell? ⟨w.heap.size + 1 + 1, 16, none⟩ = some (.int .u8 0) := q4.get 16 rfl
    have y17 : W'.cell? ⟨w.heap.size + 1 + 1, 17, none⟩ = some (.int .i64 0) := q4.get 17 rfl
    have yl := q4.lt
    clear q q4
    go_simp
    rfl
  try simp only [Act.put, List.setIfInBounds_toArray, List.set_cons_zero, List.set_cons_succ, List.getElem_toArray, List.getElem_cons_zero, List.getElem_cons_succ]
  refine wpAnyH_take (i := 3) (v := ?_) rfl (by kernel_rfl) (by kernel_rfl) (by kernel_rfl) (fun _ _ _ h => h) (Or.inl ⟨by rfl, ?_⟩) hS ?_
  rotate_left
  · intro W' hS'
    have q := HA.out _ (HB5.out.trans (hS'.mono HB5.out.size))
    have a2 := q.a.get 2 rfl
    have la := q.a.lt
    have q4 := HG5.out.2.2.2.below hS' HG5.out.2.2.2.lt
    have y16 : W'.cell? ⟨w.heap.size + 1 + 1, 16, none⟩ = some (.int .u8 0) := q4.get 16 rfl
    have y17 : W'.cell? ⟨w.heap.size + 1 + 1, 17, none⟩ = some (.int .i64 0) := q4.get 17 rfl
    have yl := q4.lt
    clear q q4
    go_simp
    rfl
  try simp only [Act.put, List.setIfInBounds_toArray, List.set_cons_zero, List.set_cons_succ, List.getElem_toArray, List.getElem_cons_zero, List.getElem_cons_succ]
  refine wpAnyH_take (i := 4) (v := ?_) rfl (by kernel_rfl) (by kernel_rfl) (by kernel_rfl) (fun _ _ _ h => h) (Or.inl ⟨by rfl, ?_⟩) hS ?_
  rotate_left
  · intro W' hS'
    have q := HA.out _ (HB5.out.trans (hS'.mono HB5.out.size))
    have a2 := q.a.get 2 rfl
    have la := q.a.lt
    have q4 := HG5.out.2.2.2.below hS' HG5.out.2.2.2.lt
    have y16 : W'.cell? ⟨w.heap.size + 1 + 1, 16, none⟩ = some (.int .u8 0) := q4.get 16 rfl
    have y17 : W'.cell? ⟨w.heap.size + 1 + 1, 17, none⟩ = some (.int .i64 0) := q4.get 17 rfl
    have yl := q4.lt
    clear q q4
    go_simp
    rfl
  try simp only [Act.put, List.setIfInBounds_toArray, List.set_cons_zero, List.set_cons_succ, List.getElem_toArray, List.getElem_cons_zero, List.getElem_cons_succ]
  refine wpAnyH_take (i := 5) (v := ?_) rfl (by kernel_rfl) (by kernel_rfl) (by kernel_rfl) (fun _ _ _ h => h) (Or.inl ⟨by rfl, ?_⟩) hS ?_
  rotate_left
  · intro W' hS'
    have q := HA.out _ (HB5.out.trans (hS'.mono HB5.out.size))
    have a2 := q.a.get 2 rfl
    have la := q.a.lt
    have q4 := HG5.out.2.2.2.below hS' HG5.out.2.2.2.lt
    have y16 : W'.cell? ⟨w.heap.size + 1 + 1, 16, none⟩ = some (.int .u8 0) := q4.get 16 rfl
    have y17 : W'.cell? ⟨w.heap.size + 1 + 1, 17, none⟩ = some (.int .i64 0) := q4.get 17 rfl
    have yl := q4.lt
    clear q q4
    go_simp
    rfl
  try simp only [Act.put, List.setIfInBounds_toArray, List.set_cons_zero, List.set_cons_succ, List.getElem_toArray, List.getElem_cons_zero, List.getElem_cons_succ]
  refine wpAnyH_take (i := 6) (v := ?_) rfl (by kernel_rfl) (by kernel_rfl) (by kernel_rfl) (fun _ _ _ h => h) (Or.inl ⟨by rfl, ?_⟩) hS ?_
  rotate_left
  · intro W' hS'
    have q := HA.out _ (HB5.out.trans (hS'.mono HB5.out.size))
    have a2 := q.a.get 2 rfl
    have la := q.a.lt
    have q4 := HG5.out.2.2.2.below hS' HG5.out.2.2.2.lt
    have y16 : W'.cell? ⟨w.heap.size + 1 + 1, 16, none⟩ = some (.int .u8 0) := q4.get 16 rfl
    have y17 : W'.cell? ⟨w.heap.size + 1 + 1, 17, none⟩ = some (.int .i64 0) := q4.get 17 rfl
    have yl := q4.lt
    clear q q4
    go_simp
    rfl
  try simp only [Act.put, List.setIfInBounds_toArray, List.set_cons_zero, List.set_cons_succ, List.getElem_toArray, List.getElem_cons_zero, List.getElem_cons_succ]
  refine wpAnyH_take (i := 7) (v := ?_) rfl (by kernel_rfl) (by kernel_rfl) (by kernel_rfl) (fun _ _ _ h => h) (Or.inl ⟨by rfl, ?_⟩) hS ?_
  rotate_left
  · intro W' hS'
    have q := HA.out _ (HB5.out.trans (hS'.mono HB5.out.size))
    have a2 := q.a.get 2 rfl
    have la := q.a.lt
    have q4 := HG5.out.2.2.2.below hS' HG5.out.2.2.2.lt
    have y16 : W'.cell? ⟨w.heap.size + 1 + 1, 16, none⟩ = some (.int .u8 0) := q4.get 16 rfl
    have y17 : W'.cell? ⟨w.heap.size + 1 + 1, 17, none⟩ = some (.int .i64 0) := q4.get 17 rfl
    have yl := q4.lt
    clear q q4
    go_simp
    rfl
  try simp only [Act.put, List.setIfInBounds_toArray, List.set_cons_zero, List.set_cons_succ, List.getElem_toArray, List.getElem_cons_zero, List.getElem_cons_succ]
  refine wpAnyH_ready (rs := [8]) (by kernel_rfl) (by simp) (AllReadyH.cons rfl (fun K hK => ?_) AllReadyH.nil)
  go_simp
  refine (HRES.out _).mono ?_
  rintro e w6 ⟨rfl, hbb⟩
  have hS6 : Below w5.heap.size w5 w6 := hS.trans (hbb.mono hS.size)
  clear hbb
  refine hK.out _ _ hS6 (fun hS => ?_)
  try simp only [Act.put, List.setIfInBounds_toArray, List.set_cons_zero, List.set_cons_succ, List.getElem_toArray, List.getElem_cons_zero, List.getElem_cons_succ]
  clear hK
  refine wpAnyH_take (i := 9) (v := ?_) rfl (by kernel_rfl) (by kernel_rfl) (by kernel_rfl) (fun _ _ _ h => h) (Or.inl ⟨by rfl, ?_⟩) hS ?_
  rotate_left
  · intro W' hS'
    have q := HA.out _ (HB5.out.trans (hS'.mono HB5.out.size))
    have a2 := q.a.get 2 rfl
    have la := q.a.lt
    have q4 := HG5.out.2.2.2.below hS' HG5.out.2.2.2.lt
    have y16 : W'.cell? ⟨w.heap.size + 1 + 1, 16, none⟩ = some (.int .u8 0) := q4.get 16 rfl
    have y17 : W'.cell? ⟨w.heap.size + 1 + 1, 17, none⟩ = some (.int .i64 0) := q4.get 17 rfl
    have yl := q4.lt
    clear q q4
    go_simp
    rfl
  try simp only [Act.put, List.setIfInBounds_toArray, List.set_cons_zero, List.set_cons_succ, List.getElem_toArray, List.getElem_cons_zero, List.getElem_cons_succ]
  refine wpAnyH_take (i := 10) (v := ?_) rfl (by kernel_rfl) (by kernel_rfl) (by kernel_rfl) (fun _ _ _ h => h) (Or.inl ⟨by rfl, ?_⟩) hS ?_
  rotate_left
  · intro W' hS'
    have q := HA.out _ (HB5.out.trans (hS'.mono HB5.out.size))
    have a2 := q.a.get 2 rfl
    have la := q.a.lt
    have q4 := HG5.out.2.2.2.below hS' HG5.out.2.2.2.lt
    have y16 : W'.cell? ⟨w.heap.size + 1 + 1, 16, none⟩ = some (.int .u8 0) := q4.get 16 rfl
    have y17 : W'.cell? ⟨w.heap.size + 1 + 1, 17, none⟩ = some (.int .i64 0) := q4.get 17 rfl
    have yl := q4.lt
    clear q q4
    go_simp
    rfl
  try simp only [Act.put, List.setIfInBounds_toArray, List.set_cons_zero, List.set_cons_succ, List.getElem_toArray, List.getElem_cons_zero, List.getElem_cons_succ]
  refine wpAnyH_take (i := 11) (v := ?_) rfl (by kernel_rfl) (by kernel_rfl) (by kernel_rfl) (fun _ _ _ h => h) (Or.inl ⟨by rfl, ?_⟩) hS ?_
  rotate_left
  · intro W' hS'
    have q := HA.out _ (HB5.out.trans (hS'.mono HB5.out.size))
    have a2 := q.a.get 2 rfl
    have la := q.a.lt
    have q4 := HG5.out.2.2.2.below hS' HG5.out.2.2.2.lt
    have y16 : W'.cell? ⟨w.heap.size + 1 + 1, 16, none⟩ = some (.int .u8 0) := q4.get 16 rfl
    have y17 : W'.cell? ⟨w.heap.size + 1 + 1, 17, none⟩ = some (.int .i64 0) := q4.get 17 rfl
    have yl := q4.lt
    clear q q4
    go_simp
    rfl
  try simp only [Act.put, List.setIfInBounds_toArray, List.set_cons_zero, List.set_cons_succ, List.getElem_toArray, List.getElem_cons_zero, List.getElem_cons_succ]
  refine wpAnyH_take (i := 12) (v := ?_) rfl (by kernel_rfl) (by kernel_rfl) (by kernel_rfl) (fun _ _ _ h => h) (Or.inl ⟨by rfl, ?_⟩) hS ?_
  rotate_left
  · intro W' hS'
    have q := HA.out _ (HB5.out.trans (hS'.mono HB5.out.size))
    have a2 := q.a.get 2 rfl
    have la := q.a.lt
    have q4 := HG5.out.2.2.2.below hS' HG5.out.2.2.2.lt
    have y16 : W'.cell? ⟨w.heap.size + 1 + 1, 16, none⟩ = some (.int .u8 0) := q4.get 16 rfl
    have y17 : W'.cell? ⟨w.heap.size + 1 + 1, 17, none⟩ = some (.int .i64 0) := q4.get 17 rfl
    have yl := q4.lt
    clear q q4
    go_simp
    rfl
  try simp only [Act.put, List.setIfInBounds_toArray, List.set_cons_zero, List.set_cons_succ, List.getElem_toArray, List.getElem_cons_zero, List.getElem_cons_succ]
  refine wpAnyH_take (i := 13) (v := ?_) rfl (by kernel_rfl) (by kernel_rfl) (by kernel_rfl) (fun _ _ _ h => h) (Or.inl ⟨by rfl, ?_⟩) hS ?_
  rotate_left
  · intro W' hS'
    have q := HA.out _ (HB5.out.trans (hS'.mono HB5.out.size))
    have a2 := q.a.get 2 rfl
    have la := q.a.lt
    have q4 := HG5.out.2.2.2.below hS' HG5.out.2.2.2.lt
    have y16 : W'.cell? ⟨w.heap.size + 1 + 1, 16, none⟩ = some (.int .u8 0) := q4.get 16 rfl
    have y17 : W'.cell? ⟨w.heap.size + 1 + 1, 17, none⟩ = some (.int .i64 0) := q4.get 17 rfl
    have yl := q4.lt
    clear q q4
    go_simp
    rfl
  try simp only [Act.put, List.setIfInBounds_toArray, List.set_cons_zero, List.set_cons_succ, List.getElem_toArray, List.getElem_cons_zero, List.getElem_cons_succ]
  refine wpAnyH_done (by kernel_rfl) ?_ _
  have HB6 := Lib.hid (HB5.out.trans (hS.mono HB5.out.size))
  have HG6 : Hid (Blk w6 w.heap.size 43 #[.int .i64 0, .int .i64 0, .int .i64 0, .int .i64 0, .slice none 0 0] ∧ Blk w6 (w.heap.size + 1) 4 #[.bool false] ∧ Blk w6 (w.heap.size + 1 + 1 + 1) 40 #[.int .i64 uw, .int .i64 0, .int .i64 0] ∧ Blk w6 (w.heap.size + 1 + 1) 67 (styCells (styK 1 0)).toArray) := Lib.hid ⟨HG5.out.1.below hS HG5.out.1.lt, HG5.out.2.1.below hS HG5.out.2.1.lt, HG5.out.2.2.1.below hS HG5.out.2.2.1.lt, HG5.out.2.2.2.below hS HG5.out.2.2.2.lt⟩
  have HRG6 : Hid (w6.rangeAt (w.heap.size + 1 + 1) 0 (styCells (styK 1 0))) := Lib.hid (sty_rng HG6.out.2.2.2)
  clear hS y16 y17
  go_wp2_with (refine wpList_load_mid rfl 67 _ rfl ((w.heap.size + 1 + 1)) 0 rfl (styCells (styK 1 0)) _ HRG6.out Tryz.underlying67 rfl (by kernel_rfl) ?_)
  refine (HFR.out _).mono ?_
  rintro e w7 ⟨⟨d, rfl⟩, hw7⟩
  have hb7 : Below w6.heap.size w6 w7 := by rw [← hw7]; exact (Below.refl _ _).alloc (Nat.le_refl _) _
  have HB7 := Lib.hid (HB6.out.trans (hb7.mono HB6.out.size))
  have HG : Hid (Blk w7 w.heap.size 43 #[.int .i64 0, .int .i64 0, .int .i64 0, .int .i64 0, .slice none 0 0] ∧ Blk w7 (w.heap.size + 1) 4 #[.bool false] ∧ Blk w7 (w.heap.size + 1 + 1 + 1) 40 #[.int .i64 uw, .int .i64 0, .int .i64 0] ∧ Blk w7 (w.heap.size + 1 + 1) 67 (styCells (styK 1 0)).toArray) := Lib.hid ⟨HG6.out.1.below hb7 HG6.out.1.lt, HG6.out.2.1.below hb7 HG6.out.2.1.lt, HG6.out.2.2.1.below hb7 HG6.out.2.2.1.lt, HG6.out.2.2.2.below hb7 HG6.out.2.2.2.lt⟩
  rw [show frameF (styK 1 0) = 0 from by decide]
  clear hw7 hb7
  go_upto_region 6 with (fail)
  refine wp_region_S (fun b d u W' => Below w.heap.size w W' ∧ Blk W' (w.heap.size + 1) 4 #[.bool false] ∧ Blk W' (w.heap.size + 1 + 1 + 1) 40 #[.int .i64 uw, .int .i64 0, .int .i64 0] ∧ (b = true → Blk W' w.heap.size 43 #[.int .i64 0, .int .i64 0, .int .i64 uw, .int .i64 0, .slice none 0 0]) ∧ (b = false → Blk W' w.heap.size 43 #[.int .i64 0, .int .i64 0, .int .i64 0, .int .i64 0, .slice none 0 0])) 23 1000 100000 false true (by kernel_rfl) (by kernel_rfl) (by kernel_rfl) (⟨HB7.out.trans (below_drV _ |>.mono HB7.out.size), HG.out.2.1.drew, HG.out.2.2.1.drew, (fun h => by cases h), fun _ => HG.out.1.drew⟩) ?_
  refine wpAnyS_take (i := 0) (v := ?_) rfl (by kernel_rfl) (by kernel_rfl) (by kernel_rfl) (fun _ _ _ h => h) (by rfl) (gives_pureF (by rfl) (by kernel_rfl) ?_) ?_
  rotate_left
  · intro d' u' W' hS'
    have q3 := hS'.2.1
    have q5 := hS'.2.2.1
    have m0 := q5.get 0 rfl
    have m1 := q5.get 1 rfl
    have lm := q5.lt
    have l3 := q3.lt
    have q := HA.out _ hS'.1
    have a5 := q.a.get 5 rfl
    have la := q.a.lt
    have h0 := q.h.get 0 rfl
    have lh := q.h.lt
    clear q
    clear q3 q5
    go_simp
    rfl
  try simp only [Act.put, List.setIfInBounds_toArray, List.set_cons_zero, List.set_cons_succ, List.getElem_toArray, List.getElem_cons_zero, List.getElem_cons_succ]
  refine wpAnyS_take (i := 1) (v := ?_) rfl (by kernel_rfl) (by kernel_rfl) (by kernel_rfl) (fun _ _ _ h => h) (by rfl) (gives_pureF (by rfl) (by kernel_rfl) ?_) ?_
  rotate_left
  · intro d' u' W' hS'
    have q3 := hS'.2.1
    have q5 := hS'.2.2.1
    have m0 := q5.get 0 rfl
    have m1 := q5.get 1 rfl
    have lm := q5.lt
    have l3 := q3.lt
    have q := HA.out _ hS'.1
    have a5 := q.a.get 5 rfl
    have la := q.a.lt
    have h0 := q.h.get 0 rfl
    have lh := q.h.lt
    clear q
    clear q3 q5
    go_simp
    rfl
  try simp only [Act.put, List.setIfInBounds_toArray, List.set_cons_zero, List.set_cons_succ, List.getElem_toArray, List.getElem_cons_zero, List.getElem_cons_succ]
  refine wpAnyS_take (i := 2) (v := ?_) rfl (by kernel_rfl) (by kernel_rfl) (by kernel_rfl) (fun _ _ _ h => h) (by rfl) (gives_pureF (by rfl) (by kernel_rfl) ?_) ?_
  rotate_left
  · intro d' u' W' hS'
    have q3 := hS'.2.1
    have q5 := hS'.2.2.1
    have m0 := q5.get 0 rfl
    have m1 := q5.get 1 rfl
    have lm := q5.lt
    have l3 := q3.lt
    have q := HA.out _ hS'.1
    have a5 := q.a.get 5 rfl
    have la := q.a.lt
    have h0 := q.h.get 0 rfl
    have lh := q.h.lt
    clear q
    clear q3 q5
    go_simp
    rfl
  try simp only [Act.put, List.setIfInBounds_toArray, List.set_cons_zero, List.set_cons_succ, List.getElem_toArray, List.getElem_cons_zero, List.getElem_cons_succ]
  refine wpAnyS_take (i := 3) (v := _) rfl (by kernel_rfl) (by kernel_rfl) (by kernel_rfl) (fun _ _ _ h => h) (by rfl) (gives_callF (by rfl) (by kernel_rfl) _ _ ?_ (fun d' u' W' hS' => ((vcut_one 0 (by decide) (w.heap.size + 1) W' hS'.2.1).mono fun e w2 h => ⟨h.1, h.2 ▸ ⟨hS'.1.setCell (p := ⟨(w.heap.size + 1), 0, none⟩) (by first | (simp; done) | (simp; omega) | omega) _, hS'.2.1.set_ 0 (.bool false), hS'.2.2.1.far (by first | (simp; done) | (simp; omega) | omega) _, fun hb => (hS'.2.2.2.1 hb).far (by first | (simp; done) | (simp; omega) | omega) _, fun hb => (hS'.2.2.2.2 hb).far (by first | (simp; done) | (simp; omega) | omega) _⟩⟩))) ?_
  · intro W'
    first | rfl | kernel_rfl
  try simp only [Act.put, List.setIfInBounds_toArray, List.set_cons_zero, List.set_cons_succ, List.getElem_toArray, List.getElem_cons_zero, List.getElem_cons_succ]
  refine wpAnyS_take (i := 4) (v := ?_) rfl (by kernel_rfl) (by kernel_rfl) (by kernel_rfl) (fun _ _ _ h => h) (by rfl) (gives_pureF (by rfl) (by kernel_rfl) ?_) ?_
  rotate_left
  · intro d' u' W' hS'
    have q3 := hS'.2.1
    have q5 := hS'.2.2.1
    have m0 := q5.get 0 rfl
    have m1 := q5.get 1 rfl
    have lm := q5.lt
    have l3 := q3.lt
    have q := HA.out _ hS'.1
    have a5 := q.a.get 5 rfl
    have la := q.a.lt
    have h0 := q.h.get 0 rfl
    have lh := q.h.lt
    clear q
    clear q3 q5
    go_simp
    rfl
  try simp only [Act.put, List.setIfInBounds_toArray, List.set_cons_zero, List.set_cons_succ, List.getElem_toArray, List.getElem_cons_zero, List.getElem_cons_succ]
  refine wpAnyS_take (i := 5) (v := ?_) rfl (by kernel_rfl) (by kernel_rfl) (by kernel_rfl) (fun _ _ _ h => h) (by rfl) (gives_pureF (by rfl) (by kernel_rfl) ?_) ?_
  rotate_left
  · intro d' u' W' hS'
    have q3 := hS'.2.1
    have q5 := hS'.2.2.1
    have m0 := q5.get 0 rfl
    have m1 := q5.get 1 rfl
    have lm := q5.lt
    have l3 := q3.lt
    have q := HA.out _ hS'.1
    have a5 := q.a.get 5 rfl
    have la := q.a.lt
    have h0 := q.h.get 0 rfl
    have lh := q.h.lt
    clear q
    clear q3 q5
    go_simp
    rfl
  try simp only [Act.put, List.setIfInBounds_toArray, List.set_cons_zero, List.set_cons_succ, List.getElem_toArray, List.getElem_cons_zero, List.getElem_cons_succ]
  refine wpAnyS_take (i := 6) (v := _) rfl (by kernel_rfl) (by kernel_rfl) (by kernel_rfl) (fun _ _ _ h => h) (by rfl) (gives_callF (by rfl) (by kernel_rfl) _ _ ?_ (fun d' u' W' hS' => ((vcut_one 0 (by decide) (w.heap.size + 1) W' hS'.2.1).mono fun e w2 h => ⟨h.1, h.2 ▸ ⟨hS'.1.setCell (p := ⟨(w.heap.size + 1), 0, none⟩) (by first | (simp; done) | (simp; omega) | omega) _, hS'.2.1.set_ 0 (.bool false), hS'.2.2.1.far (by first | (simp; done) | (simp; omega) | omega) _, fun hb => (hS'.2.2.2.1 hb).far (by first | (simp; done) | (simp; omega) | omega) _, fun hb => (hS'.2.2.2.2 hb).far (by first | (simp; done) | (simp; omega) | omega) _⟩⟩))) ?_
  · intro W'
    first | rfl | kernel_rfl
  try simp only [Act.put, List.setIfInBounds_toArray, List.set_cons_zero, List.set_cons_succ, List.getElem_toArray, List.getElem_cons_zero, List.getElem_cons_succ]
  refine wpAnyS_take (i := 7) (v := ?_) rfl (by kernel_rfl) (by kernel_rfl) (by kernel_rfl) (fun _ _ _ h => h) (by rfl) (gives_pureF (by rfl) (by kernel_rfl) ?_) ?_
  rotate_left
  · intro d' u' W' hS'
    have q3 := hS'.2.1
    have q5 := hS'.2.2.1
    have m0 := q5.get 0 rfl
    have m1 := q5.get 1 rfl
    have lm := q5.lt
    have l3 := q3.lt
    have q := HA.out _ hS'.1
    have a5 := q.a.get 5 rfl
    have la := q.a.lt
    have h0 := q.h.get 0 rfl
    have lh := q.h.lt
    clear q
    clear q3 q5
    go_simp
    rfl
  try simp only [Act.put, List.setIfInBounds_toArray, List.set_cons_zero, List.set_cons_succ, List.getElem_toArray, List.getElem_cons_zero, List.getElem_cons_succ]
  refine wpAnyS_take (i := 8) (v := ?_) rfl (by kernel_rfl) (by kernel_rfl) (by kernel_rfl) (fun _ _ _ h => h) (by rfl) (gives_pureF (by rfl) (by kernel_rfl) ?_) ?_
  rotate_left
  · intro d' u' W' hS'
    have q3 := hS'.2.1
    have q5 := hS'.2.2.1
    have m0 := q5.get 0 rfl
    have m1 := q5.get 1 rfl
    have lm := q5.lt
    have l3 := q3.lt
    have q := HA.out _ hS'.1
    have a5 := q.a.get 5 rfl
    have la := q.a.lt
    have h0 := q.h.get 0 rfl
    have lh := q.h.lt
    clear q
    clear q3 q5
    go_simp
    rfl
  try simp only [Act.put, List.setIfInBounds_toArray, List.set_cons_zero, List.set_cons_succ, List.getElem_toArray, List.getElem_cons_zero, List.getElem_cons_succ]
  refine wpAnyS_take (i := 9) (v := ?_) rfl (by kernel_rfl) (by kernel_rfl) (by kernel_rfl) (fun _ _ _ h => h) (by rfl) (gives_pureF (by rfl) (by kernel_rfl) ?_) ?_
  rotate_left
  · intro d' u' W' hS'
    have q3 := hS'.2.1
    have q5 := hS'.2.2.1
    have m0 := q5.get 0 rfl
    have m1 := q5.get 1 rfl
    have lm := q5.lt
    have l3 := q3.lt
    have q := HA.out _ hS'.1
    have a5 := q.a.get 5 rfl
    have la := q.a.lt
    have h0 := q.h.get 0 rfl
    have lh := q.h.lt
    clear q
    clear q3 q5
    go_simp
    rfl
  try simp only [Act.put, List.setIfInBounds_toArray, List.set_cons_zero, List.set_cons_succ, List.getElem_toArray, List.getElem_cons_zero, List.getElem_cons_succ]
  refine wpAnyS_take (i := 10) (v := ?_) rfl (by kernel_rfl) (by kernel_rfl) (by kernel_rfl) (fun _ _ _ h => h) (by rfl) (gives_pureF (by rfl) (by kernel_rfl) ?_) ?_
  rotate_left
  · intro d' u' W' hS'
    have q3 := hS'.2.1
    have q5 := hS'.2.2.1
    have m0 := q5.get 0 rfl
    have m1 := q5.get 1 rfl
    have lm := q5.lt
    have l3 := q3.lt
    have q := HA.out _ hS'.1
    have a5 := q.a.get 5 rfl
    have la := q.a.lt
    have h0 := q.h.get 0 rfl
    have lh := q.h.lt
    clear q
    clear q3 q5
    go_simp
    rfl
  try simp only [Act.put, List.setIfInBounds_toArray, List.set_cons_zero, List.set_cons_succ, List.getElem_toArray, List.getElem_cons_zero, List.getElem_cons_succ]
  refine wpAnyS_take (i := 11) (v := ?_) rfl (by kernel_rfl) (by kernel_rfl) (by kernel_rfl) (fun _ _ _ h => h) (by rfl) (gives_pureF (by rfl) (by kernel_rfl) ?_) ?_
  rotate_left
  · intro d' u' W' hS'
    have q3 := hS'.2.1
    have q5 := hS'.2.2.1
    have m0 := q5.get 0 rfl
    have m1 := q5.get 1 rfl
    have lm := q5.lt
    have l3 := q3.lt
    have q := HA.out _ hS'.1
    have a5 := q.a.get 5 rfl
    have la := q.a.lt
    have h0 := q.h.get 0 rfl
    have lh := q.h.lt
    clear q
    clear q3 q5
    go_simp
    rfl
  try simp only [Act.put, List.setIfInBounds_toArray, List.set_cons_zero, List.set_cons_succ, List.getElem_toArray, List.getElem_cons_zero, List.getElem_cons_succ]
  refine wpAnyS_take (i := 12) (v := _) rfl (by kernel_rfl) (by kernel_rfl) (by kernel_rfl) (fun _ _ _ h => h) (by rfl) (gives_callF (by rfl) (by kernel_rfl) _ _ ?_ (fun d' u' W' hS' => ((vcut_one uw HU.out (w.heap.size + 1) W' hS'.2.1).mono fun e w2 h => ⟨h.1, h.2 ▸ ⟨hS'.1.setCell (p := ⟨(w.heap.size + 1), 0, none⟩) (by first | (simp; done) | (simp; omega) | omega) _, hS'.2.1.set_ 0 (.bool false), hS'.2.2.1.far (by first | (simp; done) | (simp; omega) | omega) _, fun hb => (hS'.2.2.2.1 hb).far (by first | (simp; done) | (simp; omega) | omega) _, fun hb => (hS'.2.2.2.2 hb).far (by first | (simp; done) | (simp; omega) | omega) _⟩⟩))) ?_
  · intro W'
    first | rfl | kernel_rfl
  try simp only [Act.put, List.setIfInBounds_toArray, List.set_cons_zero, List.set_cons_succ, List.getElem_toArray, List.getElem_cons_zero, List.getElem_cons_succ]
  refine wpAnyS_take (i := 13) (v := ?_) rfl (by kernel_rfl) (by kernel_rfl) (by kernel_rfl) (fun _ _ _ h => h) (by rfl) (gives_pureF (by rfl) (by kernel_rfl) ?_) ?_
  rotate_left
  · intro d' u' W' hS'
    have q3 := hS'.2.1
    have q5 := hS'.2.2.1
    have m0 := q5.get 0 rfl
    have m1 := q5.get 1 rfl
    have lm := q5.lt
    have l3 := q3.lt
    have q := HA.out _ hS'.1
    have a5 := q.a.get 5 rfl
    have la := q.a.lt
    have h0 := q.h.get 0 rfl
    have lh := q.h.lt
    clear q
    clear q3 q5
    go_simp
    rfl
  try simp only [Act.put, List.setIfInBounds_toArray, List.set_cons_zero, List.set_cons_succ, List.getElem_toArray, List.getElem_cons_zero, List.getElem_cons_succ]
  refine wpAnyS_take (i := 14) (v := ?_) rfl (by kernel_rfl) (by kernel_rfl) (by kernel_rfl) (fun _ _ _ h => h) (by rfl) (gives_pureF (by rfl) (by kernel_rfl) ?_) ?_
  rotate_left
  · intro d' u' W' hS'
    have q3 := hS'.2.1
    have q5 := hS'.2.2.1
    have m0 := q5.get 0 rfl
    have m1 := q5.get 1 rfl
    have lm := q5.lt
    have l3 := q3.lt
    have q := HA.out _ hS'.1
    have a5 := q.a.get 5 rfl
    have la := q.a.lt
    have h0 := q.h.get 0 rfl
    have lh := q.h.lt
    clear q
    clear q3 q5
    go_simp
    rfl
  try simp only [Act.put, List.setIfInBounds_toArray, List.set_cons_zero, List.set_cons_succ, List.getElem_toArray, List.getElem_cons_zero, List.getElem_cons_succ]
  refine wpAnyS_take (i := 15) (v := ?_) rfl (by kernel_rfl) (by kernel_rfl) (by kernel_rfl) (fun _ _ _ h => h) (by rfl) (gives_pureF (by rfl) (by kernel_rfl) ?_) ?_
  rotate_left
  · intro d' u' W' hS'
    have q3 := hS'.2.1
    have q5 := hS'.2.2.1
    have m0 := q5.get 0 rfl
    have m1 := q5.get 1 rfl
    have lm := q5.lt
    have l3 := q3.lt
    have q := HA.out _ hS'.1
    have a5 := q.a.get 5 rfl
    have la := q.a.lt
    have h0 := q.h.get 0 rfl
    have lh := q.h.lt
    clear q
    clear q3 q5
    go_simp
    rfl
  try simp only [Act.put, List.setIfInBounds_toArray, List.set_cons_zero, List.set_cons_succ, List.getElem_toArray, List.getElem_cons_zero, List.getElem_cons_succ]
  refine wpAnyS_take (i := 16) (v := ?_) rfl (by kernel_rfl) (by kernel_rfl) (by kernel_rfl) (fun _ _ _ h => h) (by rfl) (gives_pureF (by rfl) (by kernel_rfl) ?_) ?_
  rotate_left
  · intro d' u' W' hS'
    have q3 := hS'.2.1
    have q5 := hS'.2.2.1
    have m0 := q5.get 0 rfl
    have m1 := q5.get 1 rfl
    have lm := q5.lt
    have l3 := q3.lt
    have q := HA.out _ hS'.1
    have a5 := q.a.get 5 rfl
    have la := q.a.lt
    have h0 := q.h.get 0 rfl
    have lh := q.h.lt
    clear q
    clear q3 q5
    go_simp
    rfl
  try simp only [Act.put, List.setIfInBounds_toArray, List.set_cons_zero, List.set_cons_succ, List.getElem_toArray, List.getElem_cons_zero, List.getElem_cons_succ]
  refine wpAnyS_take (i := 17) (v := ?_) rfl (by kernel_rfl) (by kernel_rfl) (by kernel_rfl) (fun _ _ _ h => h) (by rfl) (gives_pureF (by rfl) (by kernel_rfl) ?_) ?_
  rotate_left
  · intro d' u' W' hS'
    have q3 := hS'.2.1
    have q5 := hS'.2.2.1
    have m0 := q5.get 0 rfl
    have m1 := q5.get 1 rfl
    have lm := q5.lt
    have l3 := q3.lt
    have q := HA.out _ hS'.1
    have a5 := q.a.get 5 rfl
    have la := q.a.lt
    have h0 := q.h.get 0 rfl
    have lh := q.h.lt
    clear q
    clear q3 q5
    go_simp
    rfl
  try simp only [Act.put, List.setIfInBounds_toArray, List.set_cons_zero, List.set_cons_succ, List.getElem_toArray, List.getElem_cons_zero, List.getElem_cons_succ]
  refine wpAnyS_take (i := 18) (v := ?_) rfl (by kernel_rfl) (by kernel_rfl) (by kernel_rfl) (fun _ _ _ h => h) (by rfl) (gives_pureF (by rfl) (by kernel_rfl) ?_) ?_
  rotate_left
  · intro d' u' W' hS'
    have q3 := hS'.2.1
    have q5 := hS'.2.2.1
    have m0 := q5.get 0 rfl
    have m1 := q5.get 1 rfl
    have lm := q5.lt
    have l3 := q3.lt
    have q := HA.out _ hS'.1
    have a5 := q.a.get 5 rfl
    have la := q.a.lt
    have h0 := q.h.get 0 rfl
    have lh := q.h.lt
    clear q
    clear q3 q5
    go_simp
    rfl
  try simp only [Act.put, List.setIfInBounds_toArray, List.set_cons_zero, List.set_cons_succ, List.getElem_toArray, List.getElem_cons_zero, List.getElem_cons_succ]
  refine wpAnyS_take (i := 19) (v := ?_) rfl (by kernel_rfl) (by kernel_rfl) (by kernel_rfl) (fun _ _ _ h => h) (by rfl) (gives_pureF (by rfl) (by kernel_rfl) ?_) ?_
  rotate_left
  · intro d' u' W' hS'
    have q3 := hS'.2.1
    have q5 := hS'.2.2.1
    have m0 := q5.get 0 rfl
    have m1 := q5.get 1 rfl
    have lm := q5.lt
    have l3 := q3.lt
    have q := HA.out _ hS'.1
    have a5 := q.a.get 5 rfl
    have la := q.a.lt
    have h0 := q.h.get 0 rfl
    have lh := q.h.lt
    clear q
    clear q3 q5
    go_simp
    rfl
  try simp only [Act.put, List.setIfInBounds_toArray, List.set_cons_zero, List.set_cons_succ, List.getElem_toArray, List.getElem_cons_zero, List.getElem_cons_succ]
  refine wpAnyS_take (i := 20) (v := ?_) rfl (by kernel_rfl) (by kernel_rfl) (by kernel_rfl) (fun _ _ _ h => h) (by rfl) (gives_pureF (by rfl) (by kernel_rfl) ?_) ?_
  rotate_left
  · intro d' u' W' hS'
    have q3 := hS'.2.1
    have q5 := hS'.2.2.1
    have m0 := q5.get 0 rfl
    have m1 := q5.get 1 rfl
    have lm := q5.lt
    have l3 := q3.lt
    have q := HA.out _ hS'.1
    have a5 := q.a.get 5 rfl
    have la := q.a.lt
    have h0 := q.h.get 0 rfl
    have lh := q.h.lt
    clear q
    clear q3 q5
    go_simp
    rfl
  try simp only [Act.put, List.setIfInBounds_toArray, List.set_cons_zero, List.set_cons_succ, List.getElem_toArray, List.getElem_cons_zero, List.getElem_cons_succ]
  refine wpAnyS_take (i := 21) (v := _) rfl (by kernel_rfl) (by kernel_rfl) (by kernel_rfl) (fun _ _ _ h => h) (by rfl) (gives_callF (by rfl) (by kernel_rfl) _ _ ?_ (fun d' u' W' hS' => ((vcut_one 0 (by decide) (w.heap.size + 1) W' hS'.2.1).mono fun e w2 h => ⟨h.1, h.2 ▸ ⟨hS'.1.setCell (p := ⟨(w.heap.size + 1), 0, none⟩) (by first | (simp; done) | (simp; omega) | omega) _, hS'.2.1.set_ 0 (.bool false), hS'.2.2.1.far (by first | (simp; done) | (simp; omega) | omega) _, fun hb => (hS'.2.2.2.1 hb).far (by first | (simp; done) | (simp; omega) | omega) _, fun hb => (hS'.2.2.2.2 hb).far (by first | (simp; done) | (simp; omega) | omega) _⟩⟩))) ?_
  · intro W'
    first | rfl | kernel_rfl
  try simp only [Act.put, List.setIfInBounds_toArray, List.set_cons_zero, List.set_cons_succ, List.getElem_toArray, List.getElem_cons_zero, List.getElem_cons_succ]
  refine wpAnyS_take (i := 22) (v := ?_) rfl (by kernel_rfl) (by kernel_rfl) (by kernel_rfl) (fun _ _ _ h => h) (by rfl) (gives_pureF (by rfl) (by kernel_rfl) ?_) ?_
  rotate_left
  · intro d' u' W' hS'
    have q3 := hS'.2.1
    have q5 := hS'.2.2.1
    have m0 := q5.get 0 rfl
    have m1 := q5.get 1 rfl
    have lm := q5.lt
    have l3 := q3.lt
    have q := HA.out _ hS'.1
    have a5 := q.a.get 5 rfl
    have la := q.a.lt
    have h0 := q.h.get 0 rfl
    have lh := q.h.lt
    clear q
    clear q3 q5
    go_simp
    rfl
  try simp only [Act.put, List.setIfInBounds_toArray, List.set_cons_zero, List.set_cons_succ, List.getElem_toArray, List.getElem_cons_zero, List.getElem_cons_succ]
  refine wpAnyS_store (i := 23) (d := true) (fun W' => (((((W'.setCell ⟨w.heap.size, 0, none⟩ (.int .i64 0)).setCell ⟨w.heap.size, 1, none⟩ (.int .i64 0)).setCell ⟨w.heap.size, 2, none⟩ (.int .i64 uw)).setCell ⟨w.heap.size, 3, none⟩ (.int .i64 0)).setCell ⟨w.heap.size, 4, none⟩ (.slice none 0 0))) rfl (by kernel_rfl) (by rfl) (by rfl) (by kernel_rfl) rfl ?_ (fun W' hS' => ⟨(((((hS'.1.setCell (p := ⟨w.heap.size, 0, none⟩) (by first | (simp; done) | (simp; omega) | omega) (.int .i64 0)).setCell (p := ⟨w.heap.size, 1, none⟩) (by first | (simp; done) | (simp; omega) | omega) (.int .i64 0)).setCell (p := ⟨w.heap.size, 2, none⟩) (by first | (simp; done) | (simp; omega) | omega) (.int .i64 uw)).setCell (p := ⟨w.heap.size, 3, none⟩) (by first | (simp; done) | (simp; omega) | omega) (.int .i64 0)).setCell (p := ⟨w.heap.size, 4, none⟩) (by first | (simp; done) | (simp; omega) | omega) (.slice none 0 0)), (((((hS'.2.1.far (p := ⟨w.heap.size, 0, none⟩) (by first | (simp; done) | (simp; omega) | omega) (.int .i64 0)).far (p := ⟨w.heap.size, 1, none⟩) (by first | (simp; done) | (simp; omega) | omega) (.int .i64 0)).far (p := ⟨w.heap.size, 2, none⟩) (by first | (simp; done) | (simp; omega) | omega) (.int .i64 uw)).far (p := ⟨w.heap.size, 3, none⟩) (by first | (simp; done) | (simp; omega) | omega) (.int .i64 0)).far (p := ⟨w.heap.size, 4, none⟩) (by first | (simp; done) | (simp; omega) | omega) (.slice none 0 0)), (((((hS'.2.2.1.far (p := ⟨w.heap.size, 0, none⟩) (by first | (simp; done) | (simp; omega) | omega) (.int .i64 0)).far (p := ⟨w.heap.size, 1, none⟩) (by first | (simp; done) | (simp; omega) | omega) (.int .i64 0)).far (p := ⟨w.heap.size, 2, none⟩) (by first | (simp; done) | (simp; omega) | omega) (.int .i64 uw)).far (p := ⟨w.heap.size, 3, none⟩) (by first | (simp; done) | (simp; omega) | omega) (.int .i64 0)).far (p := ⟨w.heap.size, 4, none⟩) (by first | (simp; done) | (simp; omega) | omega) (.slice none 0 0)), (fun _ => by simpa using ((((((hS'.2.2.2.2 rfl).set_ 0 (.int .i64 0)).set_ 1 (.int .i64 0)).set_ 2 (.int .i64 uw)).set_ 3 (.int .i64 0)).set_ 4 (.slice none 0 0))), fun h => by cases h⟩) ?_
  · intro W' hS'
    have z := hS'.2.2.2.2 rfl
    have z0 := z.get 0 rfl
    have z1 := z.get 1 rfl
    have z2 := z.get 2 rfl
    have z3 := z.get 3 rfl
    have z4 := z.get 4 rfl
    have zl := z.lt
    have zf0 := z.frozen 0
    have zf1 := z.frozen 1
    have zf2 := z.frozen 2
    have zf3 := z.frozen 3
    have zf4 := z.frozen 4
    clear z
    go_simp
    try rfl
  try simp only [Act.put, List.setIfInBounds_toArray, List.set_cons_zero, List.set_cons_succ, List.getElem_toArray, List.getElem_cons_zero, List.getElem_cons_succ]
  refine wpAnyS_done (b := true) (d := true) (by kernel_rfl) (by kernel_rfl) (by kernel_rfl) rfl (fun w8 hS => ?_) _
  have H8 : Hid (Below w.heap.size w w8 ∧ Blk w8 (w.heap.size + 1) 4 #[.bool false] ∧ Blk w8 w.heap.size 43 #[.int .i64 0, .int .i64 0, .int .i64 uw, .int .i64 0, .slice none 0 0]) := Lib.hid ⟨hS.1, hS.2.1, hS.2.2.2.1 rfl⟩
  clear hS
  go_upto_region 7 with (fail)
  have E0 : Below w.heap.size w w8.drew ∧ Blk w8.drew (w.heap.size + 1) 4 #[.bool false] ∧ Blk w8.drew w.heap.size 43 #[.int .i64 0, .int .i64 0, .int .i64 uw, .int .i64 0, .slice none 0 0] := ⟨H8.out.1.trans ((below_drV _).mono H8.out.1.size), H8.out.2.1.drew, H8.out.2.2.drew⟩
  refine wp_region_S (fun b d u W' => Below w.heap.size w W' ∧ Blk W' (w.heap.size + 1) 4 #[.bool false] ∧ Blk W' w.heap.size 43 #[.int .i64 0, .int .i64 0, .int .i64 uw, .int .i64 0, .slice none 0 0]) 1000 1000 100000 true true (by kernel_rfl) (by kernel_rfl) (by kernel_rfl) (E0) ?_
  refine wpAnyS_take (i := 0) (v := ?_) rfl (by kernel_rfl) (by kernel_rfl) (by kernel_rfl) (fun _ _ _ h => h) (by rfl) (gives_pure (by rfl) ?_) ?_
  rotate_left
  · intro b' d' u' W' hS'
    have y2 := hS'.2.2
    have y3 := hS'.2.1
    have z0 := y2.get 0 rfl
    have z1 := y2.get 1 rfl
    have z2 := y2.get 2 rfl
    have z3 := y2.get 3 rfl
    have z4 := y2.get 4 rfl
    have zl := y2.lt
    have zf0 := y2.frozen 0
    have zf1 := y2.frozen 1
    have zf2 := y2.frozen 2
    have zf3 := y2.frozen 3
    have zf4 := y2.frozen 4
    have x0 := y3.get 0 rfl
    have xl := y3.lt
    have xf := y3.frozen 0
    clear y2 y3
    go_simp
    rfl
  try simp only [Act.put, List.setIfInBounds_toArray, List.set_cons_zero, List.set_cons_succ, List.getElem_toArray, List.getElem_cons_zero, List.getElem_cons_succ]
  refine wpAnyS_take (i := 1) (v := ?_) rfl (by kernel_rfl) (by kernel_rfl) (by kernel_rfl) (fun _ _ _ h => h) (by rfl) (gives_pure (by rfl) ?_) ?_
  rotate_left
  · intro b' d' u' W' hS'
    have y2 := hS'.2.2
    have y3 := hS'.2.1
    have z0 := y2.get 0 rfl
    have z1 := y2.get 1 rfl
    have z2 := y2.get 2 rfl
    have z3 := y2.get 3 rfl
    have z4 := y2.get 4 rfl
    have zl := y2.lt
    have zf0 := y2.frozen 0
    have zf1 := y2.frozen 1
    have zf2 := y2.frozen 2
    have zf3 := y2.frozen 3
    have zf4 := y2.frozen 4
    have x0 := y3.get 0 rfl
    have xl := y3.lt
    have xf := y3.frozen 0
    clear y2 y3
    go_simp
    rfl
  try simp only [Act.put, List.setIfInBounds_toArray, List.set_cons_zero, List.set_cons_succ, List.getElem_toArray, List.getElem_cons_zero, List.getElem_cons_succ]
  refine wpAnyS_take (i := 2) (v := undef) rfl (by kernel_rfl) (by kernel_rfl) (by kernel_rfl) (fun _ _ _ h => h) (by rfl) (gives_stay (fun W' => (((((W'.setCell ⟨w.heap.size, 0, none⟩ (.int .i64 0)).setCell ⟨w.heap.size, 1, none⟩ (.int .i64 0)).setCell ⟨w.heap.size, 2, none⟩ (.int .i64 uw)).setCell ⟨w.heap.size, 3, none⟩ (.int .i64 0)).setCell ⟨w.heap.size, 4, none⟩ (.slice none 0 0))) (by rfl) ?_ (fun b' d' u' W' hS' => ⟨(((((hS'.1.setCell (p := ⟨w.heap.size, 0, none⟩) (by first | (simp; done) | (simp; omega) | omega) (.int .i64 0)).setCell (p := ⟨w.heap.size, 1, none⟩) (by first | (simp; done) | (simp; omega) | omega) (.int .i64 0)).setCell (p := ⟨w.heap.size, 2, none⟩) (by first | (simp; done) | (simp; omega) | omega) (.int .i64 uw)).setCell (p := ⟨w.heap.size, 3, none⟩) (by first | (simp; done) | (simp; omega) | omega) (.int .i64 0)).setCell (p := ⟨w.heap.size, 4, none⟩) (by first | (simp; done) | (simp; omega) | omega) (.slice none 0 0)), (((((hS'.2.1.far (p := ⟨w.heap.size, 0, none⟩) (by first | (simp; done) | (simp; omega) | omega) (.int .i64 0)).far (p := ⟨w.heap.size, 1, none⟩) (by first | (simp; done) | (simp; omega) | omega) (.int .i64 0)).far (p := ⟨w.heap.size, 2, none⟩) (by first | (simp; done) | (simp; omega) | omega) (.int .i64 uw)).far (p := ⟨w.heap.size, 3, none⟩) (by first | (simp; done) | (simp; omega) | omega) (.int .i64 0)).far (p := ⟨w.heap.size, 4, none⟩) (by first | (simp; done) | (simp; omega) | omega) (.slice none 0 0)), by simpa using (((((hS'.2.2.set_ 0 (.int .i64 0)).set_ 1 (.int .i64 0)).set_ 2 (.int .i64 uw)).set_ 3 (.int .i64 0)).set_ 4 (.slice none 0 0))⟩)) ?_
  · intro b' d' u' W' hS'
    have y2 := hS'.2.2
    have y3 := hS'.2.1
    have z0 := y2.get 0 rfl
    have z1 := y2.get 1 rfl
    have z2 := y2.get 2 rfl
    have z3 := y2.get 3 rfl
    have z4 := y2.get 4 rfl
    have zl := y2.lt
    have zf0 := y2.frozen 0
    have zf1 := y2.frozen 1
    have zf2 := y2.frozen 2
    have zf3 := y2.frozen 3
    have zf4 := y2.frozen 4
    have x0 := y3.get 0 rfl
    have xl := y3.lt
    have xf := y3.frozen 0
    clear y2 y3
    go_simp
    try rfl
  try simp only [Act.put, List.setIfInBounds_toArray, List.set_cons_zero, List.set_cons_succ, List.getElem_toArray, List.getElem_cons_zero, List.getElem_cons_succ]
  refine wpAnyS_take (i := 3) (v := undef) rfl (by kernel_rfl) (by kernel_rfl) (by kernel_rfl) (fun _ _ _ h => h) (by rfl) (gives_stay (fun W' => W'.setCell ⟨(w.heap.size + 1), 0, none⟩ (.bool false)) (by rfl) ?_ (fun b' d' u' W' hS' => ⟨hS'.1.setCell (p := ⟨(w.heap.size + 1), 0, none⟩) (by first | (simp; done) | (simp; omega) | omega) (.bool false), hS'.2.1.set_ 0 (.bool false), hS'.2.2.far (p := ⟨(w.heap.size + 1), 0, none⟩) (by first | (simp; done) | (simp; omega) | omega) (.bool false)⟩)) ?_
  · intro b' d' u' W' hS'
    have y2 := hS'.2.2
    have y3 := hS'.2.1
    have z0 := y2.get 0 rfl
    have z1 := y2.get 1 rfl
    have z2 := y2.get 2 rfl
    have z3 := y2.get 3 rfl
    have z4 := y2.get 4 rfl
    have zl := y2.lt
    have zf0 := y2.frozen 0
    have zf1 := y2.frozen 1
    have zf2 := y2.frozen 2
    have zf3 := y2.frozen 3
    have zf4 := y2.frozen 4
    have x0 := y3.get 0 rfl
    have xl := y3.lt
    have xf := y3.frozen 0
    clear y2 y3
    go_simp
    try rfl
  try simp only [Act.put, List.setIfInBounds_toArray, List.set_cons_zero, List.set_cons_succ, List.getElem_toArray, List.getElem_cons_zero, List.getElem_cons_succ]
  refine wpAnyS_done (b := true) (d := true) (by kernel_rfl) (by kernel_rfl) (by kernel_rfl) rfl (fun w9 hS => ?_) _
  have H9 := Lib.hid hS
  have x0 := hS.2.1.get 0 rfl
  have z0 := hS.2.2.get 0 rfl
  have z1 := hS.2.2.get 1 rfl
  have z2 := hS.2.2.get 2 rfl
  have z3 := hS.2.2.get 3 rfl
  have z4 := hS.2.2.get 4 rfl
  clear hS E0
  go_wp2_with fail
  refine bodyPost_ret (v := .tuple #[.agg #[.int .i64 0, .int .i64 0, .int .i64 uw, .int .i64 0, .slice none 0 0], .bool false]) ?_ rfl ⟨rfl, H9.out.1⟩
  simp [results, Tryz.results104, go_sem, x0, z0, z1, z2, z3, z4]
set_option maxRecDepth 100000 in
set_option maxHeartbeats 8000000 in
theorem sfirst_one (hc : CB v) (hu : 0 ≤ uw ∧ uw ≤ 1099511627776) (hn : Blk w gN 69 (ndsCells l1V).toArray) : Calls Tryz.prog 182 #[.agg #[.slice (some ⟨gN, 0, none⟩) 1 1, .slice none 0 0, .int .i64 v], .agg #[.int .i64 uw, .int .i64 0, .int .i64 0], .int .i64 0] w fun e w' => e = .returned (.tuple #[.agg #[.int .i64 0, .int .i64 0, .int .i64 uw, .int .i64 0, .slice none 0 0], .bool false]) ∧ Below w.heap.size w w' := by
  have HNN := Lib.hid (fun W' (h : Below w.heap.size w W') => hn.below h hn.lt)
  have HRES := Lib.hid (fun W => vres_call v hc W)
  have HFR := Lib.hid (fun W => frame_any (styK 1 0) W (styK_BV 1 0))
  have HU := Lib.hid hu
  have hwu : IntKind.i64.wrap (uw + 0) = uw := by rw [Int.add_zero]; exact IntWalk.i64_in _ ⟨by omega, by omega⟩
  have hwu' : IntKind.i64.wrap uw = uw := by exact IntWalk.i64_in _ ⟨by omega, by omega⟩
  have HO := Lib.hid (Sty.one (styK 1 0) (A := none) (n := 0) (c := 0) rfl)
  have ln := hn.lt
  obtain ⟨w1, hw1⟩ : ∃ W, W = ((((w.alloc (.cells #[.slice (some ⟨gN, 0, none⟩) 1 1, .slice none 0 0, .int .i64 v] 25)).alloc (.cells #[.int .i64 uw, .int .i64 0, .int .i64 0] 40)).alloc (.cells #[.int .i64 0, .int .i64 0, .int .i64 0, .int .i64 0, .slice none 0 0] 43)).alloc (.cells #[.bool false] 4)) := ⟨_, rfl⟩
  obtain ⟨w5, hw5⟩ : ∃ W, W = w1.alloc (.cells (styCells (styK 1 0)).toArray 67) := ⟨_, rfl⟩
  have s1 : w1.heap.size = w.heap.size + 1 + 1 + 1 + 1 := by rw [hw1]; simp
  have HB1 : Hid (Below w.heap.size w w1) := Lib.hid (by rw [hw1]; exact ((((Below.refl _ _).alloc (Nat.le_refl _) _).alloc (by simp) _).alloc (by simp; omega) _).alloc (by simp; omega) _)
  have HB5 : Hid (Below w.heap.size w w5) := Lib.hid (by rw [hw5]; exact HB1.out.alloc HB1.out.size _)
  have HT1 : Hid (Blk w1 w.heap.size 25 #[.slice (some ⟨gN, 0, none⟩) 1 1, .slice none 0 0, .int .i64 v]) := Lib.hid (by rw [hw1]; exact (((Blk.new _ _ _).alloc _).alloc _).alloc _)
  have HG5 : Hid (Blk w5 (w.heap.size + 1 + 1) 43 #[.int .i64 0, .int .i64 0, .int .i64 0, .int .i64 0, .slice none 0 0] ∧ Blk w5 (w.heap.size + 1 + 1 + 1) 4 #[.bool false] ∧ Blk w5 (w.heap.size + 1) 40 #[.int .i64 uw, .int .i64 0, .int .i64 0] ∧ Blk w5 (w.heap.size + 1 + 1 + 1 + 1) 67 (styCells (styK 1 0)).toArray) := Lib.hid (by
    rw [hw5, hw1]
    exact ⟨((Blk.at_ _ _ _ (by simp)).alloc _).alloc _, (Blk.at_ _ _ _ (by simp)).alloc _, (((Blk.at_ _ _ _ (by simp)).alloc _).alloc _).alloc _, Blk.at_ _ _ _ (by simp)⟩)
  have HC1 : Hid (w1.rangeAt gN 1 (styCells (styK 1 0))) := Lib.hid (sty1V_rng (HNN.out _ HB1.out))
  have b0 := HT1.out.get 0 rfl
  have bl := HT1.out.lt
  have bn := (HNN.out _ HB1.out).lt
  have HW := Lib.hid (And.intro hw1 hw5)
  clear hc hu hn hw5
  go_enter Tryz.func182, Tryz.ntmps182
  go_upto_region 1 with (fail)
  rw [← hw1]
  clear hw1 ln
  go_upto_region 2 with (first
    | refine wpList_load_mid rfl 67 _ rfl gN 1 rfl (styCells (styK 1 0)) _ HC1.out Tryz.underlying67 rfl (by kernel_rfl) ?_
    | refine wpList_store_new rfl 67 _ _ rfl (w.heap.size + 1 + 1 + 1 + 1) (by simp [s1]) (styCells (styK 1 0)).toArray rfl rfl 67 _ (by kernel_rfl) rfl HO.out ?_)
  rw [← HW.out.2]
  try rw [s1]
  clear b0 bl bn s1
  have HT5 := Lib.hid (show Blk w5 w.heap.size 25 #[.slice (some ⟨gN, 0, none⟩) 1 1, .slice none 0 0, .int .i64 v] by rw [HW.out.2]; exact HT1.out.alloc _)
  have y16 : w5.cell? ⟨(w.heap.size + 1 + 1 + 1 + 1), 16, none⟩ = some (.int .u8 0) := HG5.out.2.2.2.get 16 rfl
  have y17 : w5.cell? ⟨(w.heap.size + 1 + 1 + 1 + 1), 17, none⟩ = some (.int .i64 0) := HG5.out.2.2.2.get 17 rfl
  have yl := HG5.out.2.2.2.lt
  have t2 := HT5.out.get 2 rfl
  have tl := HT5.out.lt
  go_wp2_with fail
  refine (HRES.out _).mono ?_
  rintro e w6 ⟨rfl, hS⟩
  clear t2 tl yl
  have HB6 := Lib.hid (HB5.out.trans (hS.mono HB5.out.size))
  have HG6 : Hid (Blk w6 (w.heap.size + 1 + 1) 43 #[.int .i64 0, .int .i64 0, .int .i64 0, .int .i64 0, .slice none 0 0] ∧ Blk w6 (w.heap.size + 1 + 1 + 1) 4 #[.bool false] ∧ Blk w6 (w.heap.size + 1) 40 #[.int .i64 uw, .int .i64 0, .int .i64 0] ∧ Blk w6 (w.heap.size + 1 + 1 + 1 + 1) 67 (styCells (styK 1 0)).toArray) := Lib.hid ⟨HG5.out.1.below hS HG5.out.1.lt, HG5.out.2.1.below hS HG5.out.2.1.lt, HG5.out.2.2.1.below hS HG5.out.2.2.1.lt, HG5.out.2.2.2.below hS HG5.out.2.2.2.lt⟩
  have HRG6 : Hid (w6.rangeAt (w.heap.size + 1 + 1 + 1 + 1) 0 (styCells (styK 1 0))) := Lib.hid (sty_rng HG6.out.2.2.2)
  clear hS y16 y17
  go_wp2_with (refine wpList_load_mid rfl 67 _ rfl ((w.heap.size + 1 + 1 + 1 + 1)) 0 rfl (styCells (styK 1 0)) _ HRG6.out Tryz.underlying67 rfl (by kernel_rfl) ?_)
  refine (HFR.out _).mono ?_
  rintro e w7 ⟨⟨d, rfl⟩, hw7⟩
  have hb7 : Below w6.heap.size w6 w7 := by rw [← hw7]; exact (Below.refl _ _).alloc (Nat.le_refl _) _
  have HB7 := Lib.hid (HB6.out.trans (hb7.mono HB6.out.size))
  have HG : Hid (Blk w7 (w.heap.size + 1 + 1) 43 #[.int .i64 0, .int .i64 0, .int .i64 0, .int .i64 0, .slice none 0 0] ∧ Blk w7 (w.heap.size + 1 + 1 + 1) 4 #[.bool false] ∧ Blk w7 (w.heap.size + 1) 40 #[.int .i64 uw, .int .i64 0, .int .i64 0] ∧ Blk w7 (w.heap.size + 1 + 1 + 1 + 1) 67 (styCells (styK 1 0)).toArray) := Lib.hid ⟨HG6.out.1.below hb7 HG6.out.1.lt, HG6.out.2.1.below hb7 HG6.out.2.1.lt, HG6.out.2.2.1.below hb7 HG6.out.2.2.1.lt, HG6.out.2.2.2.below hb7 HG6.out.2.2.2.lt⟩
  rw [show frameF (styK 1 0) = 0 from by decide]
  clear hw7 hb7
  go_upto_region 5 with (fail)
  refine wp_region_S (fun b d u W' => Below w.heap.size w W' ∧ Blk W' (w.heap.size + 1 + 1 + 1) 4 #[.bool false] ∧ Blk W' (w.heap.size + 1) 40 #[.int .i64 uw, .int .i64 0, .int .i64 0] ∧ (b = true → Blk W' (w.heap.size + 1 + 1) 43 #[.int .i64 0, .int .i64 0, .int .i64 uw, .int .i64 0, .slice none 0 0]) ∧ (b = false → Blk W' (w.heap.size + 1 + 1) 43 #[.int .i64 0, .int .i64 0, .int .i64 0, .int .i64 0, .slice none 0 0])) 17 1000 100000 false true (by kernel_rfl) (by kernel_rfl) (by kernel_rfl) (⟨HB7.out.trans (below_drV _ |>.mono HB7.out.size), HG.out.2.1.drew, HG.out.2.2.1.drew, (fun h => by cases h), fun _ => HG.out.1.drew⟩) ?_
  refine wpAnyS_take (i := 0) (v := ?_) rfl (by kernel_rfl) (by kernel_rfl) (by kernel_rfl) (fun _ _ _ h => h) (by rfl) (gives_pureF (by rfl) (by kernel_rfl) ?_) ?_
  rotate_left
  · intro d' u' W' hS'
    have q3 := hS'.2.1
    have q5 := hS'.2.2.1
    have m0 := q5.get 0 rfl
    have m1 := q5.get 1 rfl
    have lm := q5.lt
    have l3 := q3.lt
    clear q3 q5
    go_simp
    rfl
  try simp only [Act.put, List.setIfInBounds_toArray, List.set_cons_zero, List.set_cons_succ, List.getElem_toArray, List.getElem_cons_zero, List.getElem_cons_succ]
  refine wpAnyS_take (i := 1) (v := ?_) rfl (by kernel_rfl) (by kernel_rfl) (by kernel_rfl) (fun _ _ _ h => h) (by rfl) (gives_pureF (by rfl) (by kernel_rfl) ?_) ?_
  rotate_left
  · intro d' u' W' hS'
    have q3 := hS'.2.1
    have q5 := hS'.2.2.1
    have m0 := q5.get 0 rfl
    have m1 := q5.get 1 rfl
    have lm := q5.lt
    have l3 := q3.lt
    clear q3 q5
    go_simp
    rfl
  try simp only [Act.put, List.setIfInBounds_toArray, List.set_cons_zero, List.set_cons_succ, List.getElem_toArray, List.getElem_cons_zero, List.getElem_cons_succ]
  refine wpAnyS_take (i := 2) (v := ?_) rfl (by kernel_rfl) (by kernel_rfl) (by kernel_rfl) (fun _ _ _ h => h) (by rfl) (gives_pureF (by rfl) (by kernel_rfl) ?_) ?_
  rotate_left
  · intro d' u' W' hS'
    have q3 := hS'.2.1
    have q5 := hS'.2.2.1
    have m0 := q5.get 0 rfl
    have m1 := q5.get 1 rfl
    have lm := q5.lt
    have l3 := q3.lt
    clear q3 q5
    go_simp
    rfl
  try simp only [Act.put, List.setIfInBounds_toArray, List.set_cons_zero, List.set_cons_succ, List.getElem_toArray, List.getElem_cons_zero, List.getElem_cons_succ]
  refine wpAnyS_take (i := 3) (v := _) rfl (by kernel_rfl) (by kernel_rfl) (by kernel_rfl) (fun _ _ _ h => h) (by rfl) (gives_callF (by rfl) (by kernel_rfl) _ _ ?_ (fun d' u' W' hS' => ((scut_one 0 (by decide) (w.heap.size + 1 + 1 + 1) W' hS'.2.1).mono fun e w2 h => ⟨h.1, h.2 ▸ ⟨hS'.1.setCell (p := ⟨(w.heap.size + 1 + 1 + 1), 0, none⟩) (by first | (simp; done) | (simp; omega) | omega) _, hS'.2.1.set_ 0 (.bool false), hS'.2.2.1.far (by first | (simp; done) | (simp; omega) | omega) _, fun hb => (hS'.2.2.2.1 hb).far (by first | (simp; done) | (simp; omega) | omega) _, fun hb => (hS'.2.2.2.2 hb).far (by first | (simp; done) | (simp; omega) | omega) _⟩⟩))) ?_
  · intro W'
    first | rfl | kernel_rfl
  try simp only [Act.put, List.setIfInBounds_toArray, List.set_cons_zero, List.set_cons_succ, List.getElem_toArray, List.getElem_cons_zero, List.getElem_cons_succ]
  refine wpAnyS_take (i := 4) (v := ?_) rfl (by kernel_rfl) (by kernel_rfl) (by kernel_rfl) (fun _ _ _ h => h) (by rfl) (gives_pureF (by rfl) (by kernel_rfl) ?_) ?_
  rotate_left
  · intro d' u' W' hS'
    have q3 := hS'.2.1
    have q5 := hS'.2.2.1
    have m0 := q5.get 0 rfl
    have m1 := q5.get 1 rfl
    have lm := q5.lt
    have l3 := q3.lt
    clear q3 q5
    go_simp
    rfl
  try simp only [Act.put, List.setIfInBounds_toArray, List.set_cons_zero, List.set_cons_succ, List.getElem_toArray, List.getElem_cons_zero, List.getElem_cons_succ]
  refine wpAnyS_take (i := 5) (v := ?_) rfl (by kernel_rfl) (by kernel_rfl) (by kernel_rfl) (fun _ _ _ h => h) (by rfl) (gives_pureF (by rfl) (by kernel_rfl) ?_) ?_
  rotate_left
  · intro d' u' W' hS'
    have q3 := hS'.2.1
    have q5 := hS'.2.2.1
    have m0 := q5.get 0 rfl
    have m1 := q5.get 1 rfl
    have lm := q5.lt
    have l3 := q3.lt
    clear q3 q5
    go_simp
    rfl
  try simp only [Act.put, List.setIfInBounds_toArray, List.set_cons_zero, List.set_cons_succ, List.getElem_toArray, List.getElem_cons_zero, List.getElem_cons_succ]
  refine wpAnyS_take (i := 6) (v := _) rfl (by kernel_rfl) (by kernel_rfl) (by kernel_rfl) (fun _ _ _ h => h) (by rfl) (gives_callF (by rfl) (by kernel_rfl) _ _ ?_ (fun d' u' W' hS' => ((scut_one 0 (by decide) (w.heap.size + 1 + 1 + 1) W' hS'.2.1).mono fun e w2 h => ⟨h.1, h.2 ▸ ⟨hS'.1.setCell (p := ⟨(w.heap.size + 1 + 1 + 1), 0, none⟩) (by first | (simp; done) | (simp; omega) | omega) _, hS'.2.1.set_ 0 (.bool false), hS'.2.2.1.far (by first | (simp; done) | (simp; omega) | omega) _, fun hb => (hS'.2.2.2.1 hb).far (by first | (simp; done) | (simp; omega) | omega) _, fun hb => (hS'.2.2.2.2 hb).far (by first | (simp; done) | (simp; omega) | omega) _⟩⟩))) ?_
  · intro W'
    first | rfl | kernel_rfl
  try simp only [Act.put, List.setIfInBounds_toArray, List.set_cons_zero, List.set_cons_succ, List.getElem_toArray, List.getElem_cons_zero, List.getElem_cons_succ]
  refine wpAnyS_take (i := 7) (v := ?_) rfl (by kernel_rfl) (by kernel_rfl) (by kernel_rfl) (fun _ _ _ h => h) (by rfl) (gives_pureF (by rfl) (by kernel_rfl) ?_) ?_
  rotate_left
  · intro d' u' W' hS'
    have q3 := hS'.2.1
    have q5 := hS'.2.2.1
    have m0 := q5.get 0 rfl
    have m1 := q5.get 1 rfl
    have lm := q5.lt
    have l3 := q3.lt
    clear q3 q5
    go_simp
    rfl
  try simp only [Act.put, List.setIfInBounds_toArray, List.set_cons_zero, List.set_cons_succ, List.getElem_toArray, List.getElem_cons_zero, List.getElem_cons_succ]
  refine wpAnyS_take (i := 8) (v := ?_) rfl (by kernel_rfl) (by kernel_rfl) (by kernel_rfl) (fun _ _ _ h => h) (by rfl) (gives_pureF (by rfl) (by kernel_rfl) ?_) ?_
  rotate_left
  · intro d' u' W' hS'
    have q3 := hS'.2.1
    have q5 := hS'.2.2.1
    have m0 := q5.get 0 rfl
    have m1 := q5.get 1 rfl
    have lm := q5.lt
    have l3 := q3.lt
    clear q3 q5
    go_simp
    rfl
  try simp only [Act.put, List.setIfInBounds_toArray, List.set_cons_zero, List.set_cons_succ, List.getElem_toArray, List.getElem_cons_zero, List.getElem_cons_succ]
  refine wpAnyS_take (i := 9) (v := ?_) rfl (by kernel_rfl) (by kernel_rfl) (by kernel_rfl) (fun _ _ _ h => h) (by rfl) (gives_pureF (by rfl) (by kernel_rfl) ?_) ?_
  rotate_left
  · intro d' u' W' hS'
    have q3 := hS'.2.1
    have q5 := hS'.2.2.1
    have m0 := q5.get 0 rfl
    have m1 := q5.get 1 rfl
    have lm := q5.lt
    have l3 := q3.lt
    clear q3 q5
    go_simp
    rfl
  try simp only [Act.put, List.setIfInBounds_toArray, List.set_cons_zero, List.set_cons_succ, List.getElem_toArray, List.getElem_cons_zero, List.getElem_cons_succ]
  refine wpAnyS_take (i := 10) (v := ?_) rfl (by kernel_rfl) (by kernel_rfl) (by kernel_rfl) (fun _ _ _ h => h) (by rfl) (gives_pureF (by rfl) (by kernel_rfl) ?_) ?_
  rotate_left
  · intro d' u' W' hS'
    have q3 := hS'.2.1
    have q5 := hS'.2.2.1
    have m0 := q5.get 0 rfl
    have m1 := q5.get 1 rfl
    have lm := q5.lt
    have l3 := q3.lt
    clear q3 q5
    go_simp
    rfl
  try simp only [Act.put, List.setIfInBounds_toArray, List.set_cons_zero, List.set_cons_succ, List.getElem_toArray, List.getElem_cons_zero, List.getElem_cons_succ]
  refine wpAnyS_take (i := 11) (v := ?_) rfl (by kernel_rfl) (by kernel_rfl) (by kernel_rfl) (fun _ _ _ h => h) (by rfl) (gives_pureF (by rfl) (by kernel_rfl) ?_) ?_
  rotate_left
  · intro d' u' W' hS'
    have q3 := hS'.2.1
    have q5 := hS'.2.2.1
    have m0 := q5.get 0 rfl
    have m1 := q5.get 1 rfl
    have lm := q5.lt
    have l3 := q3.lt
    clear q3 q5
    go_simp
    rfl
  try simp only [Act.put, List.setIfInBounds_toArray, List.set_cons_zero, List.set_cons_succ, List.getElem_toArray, List.getElem_cons_zero, List.getElem_cons_succ]
  refine wpAnyS_take (i := 12) (v := _) rfl (by kernel_rfl) (by kernel_rfl) (by kernel_rfl) (fun _ _ _ h => h) (by rfl) (gives_callF (by rfl) (by kernel_rfl) _ _ ?_ (fun d' u' W' hS' => ((scut_one uw HU.out (w.heap.size + 1 + 1 + 1) W' hS'.2.1).mono fun e w2 h => ⟨h.1, h.2 ▸ ⟨hS'.1.setCell (p := ⟨(w.heap.size + 1 + 1 + 1), 0, none⟩) (by first | (simp; done) | (simp; omega) | omega) _, hS'.2.1.set_ 0 (.bool false), hS'.2.2.1.far (by first | (simp; done) | (simp; omega) | omega) _, fun hb => (hS'.2.2.2.1 hb).far (by first | (simp; done) | (simp; omega) | omega) _, fun hb => (hS'.2.2.2.2 hb).far (by first | (simp; done) | (simp; omega) | omega) _⟩⟩))) ?_
  · intro W'
    first | rfl | kernel_rfl
  try simp only [Act.put, List.setIfInBounds_toArray, List.set_cons_zero, List.set_cons_succ, List.getElem_toArray, List.getElem_cons_zero, List.getElem_cons_succ]
  refine wpAnyS_take (i := 13) (v := ?_) rfl (by kernel_rfl) (by kernel_rfl) (by kernel_rfl) (fun _ _ _ h => h) (by rfl) (gives_pureF (by rfl) (by kernel_rfl) ?_) ?_
  rotate_left
  · intro d' u' W' hS'
    have q3 := hS'.2.1
    have q5 := hS'.2.2.1
    have m0 := q5.get 0 rfl
    have m1 := q5.get 1 rfl
    have lm := q5.lt
    have l3 := q3.lt
    clear q3 q5
    go_simp
    rfl
  try simp only [Act.put, List.setIfInBounds_toArray, List.set_cons_zero, List.set_cons_succ, List.getElem_toArray, List.getElem_cons_zero, List.getElem_cons_succ]
  refine wpAnyS_take (i := 14) (v := ?_) rfl (by kernel_rfl) (by kernel_rfl) (by kernel_rfl) (fun _ _ _ h => h) (by rfl) (gives_pureF (by rfl) (by kernel_rfl) ?_) ?_
  rotate_left
  · intro d' u' W' hS'
    have q3 := hS'.2.1
    have q5 := hS'.2.2.1
    have m0 := q5.get 0 rfl
    have m1 := q5.get 1 rfl
    have lm := q5.lt
    have l3 := q3.lt
    clear q3 q5
    go_simp
    rfl
  try simp only [Act.put, List.setIfInBounds_toArray, List.set_cons_zero, List.set_cons_succ, List.getElem_toArray, List.getElem_cons_zero, List.getElem_cons_succ]
  refine wpAnyS_take (i := 15) (v := _) rfl (by kernel_rfl) (by kernel_rfl) (by kernel_rfl) (fun _ _ _ h => h) (by rfl) (gives_callF (by rfl) (by kernel_rfl) _ _ ?_ (fun d' u' W' hS' => ((scut_one 0 (by decide) (w.heap.size + 1 + 1 + 1) W' hS'.2.1).mono fun e w2 h => ⟨h.1, h.2 ▸ ⟨hS'.1.setCell (p := ⟨(w.heap.size + 1 + 1 + 1), 0, none⟩) (by first | (simp; done) | (simp; omega) | omega) _, hS'.2.1.set_ 0 (.bool false), hS'.2.2.1.far (by first | (simp; done) | (simp; omega) | omega) _, fun hb => (hS'.2.2.2.1 hb).far (by first | (simp; done) | (simp; omega) | omega) _, fun hb => (hS'.2.2.2.2 hb).far (by first | (simp; done) | (simp; omega) | omega) _⟩⟩))) ?_
  · intro W'
    first | rfl | kernel_rfl
  try simp only [Act.put, List.setIfInBounds_toArray, List.set_cons_zero, List.set_cons_succ, List.getElem_toArray, List.getElem_cons_zero, List.getElem_cons_succ]
  refine wpAnyS_take (i := 16) (v := ?_) rfl (by kernel_rfl) (by kernel_rfl) (by kernel_rfl) (fun _ _ _ h => h) (by rfl) (gives_pureF (by rfl) (by kernel_rfl) ?_) ?_
  rotate_left
  · intro d' u' W' hS'
    have q3 := hS'.2.1
    have q5 := hS'.2.2.1
    have m0 := q5.get 0 rfl
    have m1 := q5.get 1 rfl
    have lm := q5.lt
    have l3 := q3.lt
    clear q3 q5
    go_simp
    rfl
  try simp only [Act.put, List.setIfInBounds_toArray, List.set_cons_zero, List.set_cons_succ, List.getElem_toArray, List.getElem_cons_zero, List.getElem_cons_succ]
  refine wpAnyS_store (i := 17) (d := true) (fun W' => (((((W'.setCell ⟨w.heap.size + 1 + 1, 0, none⟩ (.int .i64 0)).setCell ⟨w.heap.size + 1 + 1, 1, none⟩ (.int .i64 0)).setCell ⟨w.heap.size + 1 + 1, 2, none⟩ (.int .i64 uw)).setCell ⟨w.heap.size + 1 + 1, 3, none⟩ (.int .i64 0)).setCell ⟨w.heap.size + 1 + 1, 4, none⟩ (.slice none 0 0))) rfl (by kernel_rfl) (by rfl) (by rfl) (by kernel_rfl) rfl ?_ (fun W' hS' => ⟨(((((hS'.1.setCell (p := ⟨w.heap.size + 1 + 1, 0, none⟩) (by first | (simp; done) | (simp; omega) | omega) (.int .i64 0)).setCell (p := ⟨w.heap.size + 1 + 1, 1, none⟩) (by first | (simp; done) | (simp; omega) | omega) (.int .i64 0)).setCell (p := ⟨w.heap.size + 1 + 1, 2, none⟩) (by first | (simp; done) | (simp; omega) | omega) (.int .i64 uw)).setCell (p := ⟨w.heap.size + 1 + 1, 3, none⟩) (by first | (simp; done) | (simp; omega) | omega) (.int .i64 0)).setCell (p := ⟨w.heap.size + 1 + 1, 4, none⟩) (by first | (simp; done) | (simp; omega) | omega) (.slice none 0 0)), (((((hS'.2.1.far (p := ⟨w.heap.size + 1 + 1, 0, none⟩) (by first | (simp; done) | (simp; omega) | omega) (.int .i64 0)).far (p := ⟨w.heap.size + 1 + 1, 1, none⟩) (by first | (simp; done) | (simp; omega) | omega) (.int .i64 0)).far (p := ⟨w.heap.size + 1 + 1, 2, none⟩) (by first | (simp; done) | (simp; omega) | omega) (.int .i64 uw)).far (p := ⟨w.heap.size + 1 + 1, 3, none⟩) (by first | (simp; done) | (simp; omega) | omega) (.int .i64 0)).far (p := ⟨w.heap.size + 1 + 1, 4, none⟩) (by first | (simp; done) | (simp; omega) | omega) (.slice none 0 0)), (((((hS'.2.2.1.far (p := ⟨w.heap.size + 1 + 1, 0, none⟩) (by first | (simp; done) | (simp; omega) | omega) (.int .i64 0)).far (p := ⟨w.heap.size + 1 + 1, 1, none⟩) (by first | (simp; done) | (simp; omega) | omega) (.int .i64 0)).far (p := ⟨w.heap.size + 1 + 1, 2, none⟩) (by first | (simp; done) | (simp; omega) | omega) (.int .i64 uw)).far (p := ⟨w.heap.size + 1 + 1, 3, none⟩) (by first | (simp; done) | (simp; omega) | omega) (.int .i64 0)).far (p := ⟨w.heap.size + 1 + 1, 4, none⟩) (by first | (simp; done) | (simp; omega) | omega) (.slice none 0 0)), (fun _ => by simpa using ((((((hS'.2.2.2.2 rfl).set_ 0 (.int .i64 0)).set_ 1 (.int .i64 0)).set_ 2 (.int .i64 uw)).set_ 3 (.int .i64 0)).set_ 4 (.slice none 0 0))), fun h => by cases h⟩) ?_
  · intro W' hS'
    have z := hS'.2.2.2.2 rfl
    have z0 := z.get 0 rfl
    have z1 := z.get 1 rfl
    have z2 := z.get 2 rfl
    have z3 := z.get 3 rfl
    have z4 := z.get 4 rfl
    have zl := z.lt
    have zf0 := z.frozen 0
    have zf1 := z.frozen 1
    have zf2 := z.frozen 2
    have zf3 := z.frozen 3
    have zf4 := z.frozen 4
    clear z
    go_simp
    try rfl
  try simp only [Act.put, List.setIfInBounds_toArray, List.set_cons_zero, List.set_cons_succ, List.getElem_toArray, List.getElem_cons_zero, List.getElem_cons_succ]
  refine wpAnyS_done (b := true) (d := true) (by kernel_rfl) (by kernel_rfl) (by kernel_rfl) rfl (fun w8 hS => ?_) _
  have H8 : Hid (Below w.heap.size w w8 ∧ Blk w8 (w.heap.size + 1 + 1 + 1) 4 #[.bool false] ∧ Blk w8 (w.heap.size + 1 + 1) 43 #[.int .i64 0, .int .i64 0, .int .i64 uw, .int .i64 0, .slice none 0 0]) := Lib.hid ⟨hS.1, hS.2.1, hS.2.2.2.1 rfl⟩
  clear hS
  go_upto_region 6 with (fail)
  have E0 : Below w.heap.size w w8.drew ∧ Blk w8.drew (w.heap.size + 1 + 1 + 1) 4 #[.bool false] ∧ Blk w8.drew (w.heap.size + 1 + 1) 43 #[.int .i64 0, .int .i64 0, .int .i64 uw, .int .i64 0, .slice none 0 0] := ⟨H8.out.1.trans ((below_drV _).mono H8.out.1.size), H8.out.2.1.drew, H8.out.2.2.drew⟩
  refine wp_region_S (fun b d u W' => Below w.heap.size w W' ∧ Blk W' (w.heap.size + 1 + 1 + 1) 4 #[.bool false] ∧ Blk W' (w.heap.size + 1 + 1) 43 #[.int .i64 0, .int .i64 0, .int .i64 uw, .int .i64 0, .slice none 0 0]) 1000 1000 100000 true true (by kernel_rfl) (by kernel_rfl) (by kernel_rfl) (E0) ?_
  refine wpAnyS_take (i := 0) (v := ?_) rfl (by kernel_rfl) (by kernel_rfl) (by kernel_rfl) (fun _ _ _ h => h) (by rfl) (gives_pure (by rfl) ?_) ?_
  rotate_left
  · intro b' d' u' W' hS'
    have y2 := hS'.2.2
    have y3 := hS'.2.1
    have z0 := y2.get 0 rfl
    have z1 := y2.get 1 rfl
    have z2 := y2.get 2 rfl
    have z3 := y2.get 3 rfl
    have z4 := y2.get 4 rfl
    have zl := y2.lt
    have zf0 := y2.frozen 0
    have zf1 := y2.frozen 1
    have zf2 := y2.frozen 2
    have zf3 := y2.frozen 3
    have zf4 := y2.frozen 4
    have x0 := y3.get 0 rfl
    have xl := y3.lt
    have xf := y3.frozen 0
    clear y2 y3
    go_simp
    rfl
  try simp only [Act.put, List.setIfInBounds_toArray, List.set_cons_zero, List.set_cons_succ, List.getElem_toArray, List.getElem_cons_zero, List.getElem_cons_succ]
  refine wpAnyS_take (i := 1) (v := ?_) rfl (by kernel_rfl) (by kernel_rfl) (by kernel_rfl) (fun _ _ _ h => h) (by rfl) (gives_pure (by rfl) ?_) ?_
  rotate_left
  · intro b' d' u' W' hS'
    have y2 := hS'.2.2
    have y3 := hS'.2.1
    have z0 := y2.get 0 rfl
    have z1 := y2.get 1 rfl
    have z2 := y2.get 2 rfl
    have z3 := y2.get 3 rfl
    have z4 := y2.get 4 rfl
    have zl := y2.lt
    have zf0 := y2.frozen 0
    have zf1 := y2.frozen 1
    have zf2 := y2.frozen 2
    have zf3 := y2.frozen 3
    have zf4 := y2.frozen 4
    have x0 := y3.get 0 rfl
    have xl := y3.lt
    have xf := y3.frozen 0
    clear y2 y3
    go_simp
    rfl
  try simp only [Act.put, List.setIfInBounds_toArray, List.set_cons_zero, List.set_cons_succ, List.getElem_toArray, List.getElem_cons_zero, List.getElem_cons_succ]
  refine wpAnyS_take (i := 2) (v := undef) rfl (by kernel_rfl) (by kernel_rfl) (by kernel_rfl) (fun _ _ _ h => h) (by rfl) (gives_stay (fun W' => (((((W'.setCell ⟨w.heap.size + 1 + 1, 0, none⟩ (.int .i64 0)).setCell ⟨w.heap.size + 1 + 1, 1, none⟩ (.int .i64 0)).setCell ⟨w.heap.size + 1 + 1, 2, none⟩ (.int .i64 uw)).setCell ⟨w.heap.size + 1 + 1, 3, none⟩ (.int .i64 0)).setCell ⟨w.heap.size + 1 + 1, 4, none⟩ (.slice none 0 0))) (by rfl) ?_ (fun b' d' u' W' hS' => ⟨(((((hS'.1.setCell (p := ⟨w.heap.size + 1 + 1, 0, none⟩) (by first | (simp; done) | (simp; omega) | omega) (.int .i64 0)).setCell (p := ⟨w.heap.size + 1 + 1, 1, none⟩) (by first | (simp; done) | (simp; omega) | omega) (.int .i64 0)).setCell (p := ⟨w.heap.size + 1 + 1, 2, none⟩) (by first | (simp; done) | (simp; omega) | omega) (.int .i64 uw)).setCell (p := ⟨w.heap.size + 1 + 1, 3, none⟩) (by first | (simp; done) | (simp; omega) | omega) (.int .i64 0)).setCell (p := ⟨w.heap.size + 1 + 1, 4, none⟩) (by first | (simp; done) | (simp; omega) | omega) (.slice none 0 0)), (((((hS'.2.1.far (p := ⟨w.heap.size + 1 + 1, 0, none⟩) (by first | (simp; done) | (simp; omega) | omega) (.int .i64 0)).far (p := ⟨w.heap.size + 1 + 1, 1, none⟩) (by first | (simp; done) | (simp; omega) | omega) (.int .i64 0)).far (p := ⟨w.heap.size + 1 + 1, 2, none⟩) (by first | (simp; done) | (simp; omega) | omega) (.int .i64 uw)).far (p := ⟨w.heap.size + 1 + 1, 3, none⟩) (by first | (simp; done) | (simp; omega) | omega) (.int .i64 0)).far (p := ⟨w.heap.size + 1 + 1, 4, none⟩) (by first | (simp; done) | (simp; omega) | omega) (.slice none 0 0)), by simpa using (((((hS'.2.2.set_ 0 (.int .i64 0)).set_ 1 (.int .i64 0)).set_ 2 (.int .i64 uw)).set_ 3 (.int .i64 0)).set_ 4 (.slice none 0 0))⟩)) ?_
  · intro b' d' u' W' hS'
    have y2 := hS'.2.2
    have y3 := hS'.2.1
    have z0 := y2.get 0 rfl
    have z1 := y2.get 1 rfl
    have z2 := y2.get 2 rfl
    have z3 := y2.get 3 rfl
    have z4 := y2.get 4 rfl
    have zl := y2.lt
    have zf0 := y2.frozen 0
    have zf1 := y2.frozen 1
    have zf2 := y2.frozen 2
    have zf3 := y2.frozen 3
    have zf4 := y2.frozen 4
    have x0 := y3.get 0 rfl
    have xl := y3.lt
    have xf := y3.frozen 0
    clear y2 y3
    go_simp
    try rfl
  try simp only [Act.put, List.setIfInBounds_toArray, List.set_cons_zero, List.set_cons_succ, List.getElem_toArray, List.getElem_cons_zero, List.getElem_cons_succ]
  refine wpAnyS_take (i := 3) (v := undef) rfl (by kernel_rfl) (by kernel_rfl) (by kernel_rfl) (fun _ _ _ h => h) (by rfl) (gives_stay (fun W' => W'.setCell ⟨(w.heap.size + 1 + 1 + 1), 0, none⟩ (.bool false)) (by rfl) ?_ (fun b' d' u' W' hS' => ⟨hS'.1.setCell (p := ⟨(w.heap.size + 1 + 1 + 1), 0, none⟩) (by first | (simp; done) | (simp; omega) | omega) (.bool false), hS'.2.1.set_ 0 (.bool false), hS'.2.2.far (p := ⟨(w.heap.size + 1 + 1 + 1), 0, none⟩) (by first | (simp; done) | (simp; omega) | omega) (.bool false)⟩)) ?_
  · intro b' d' u' W' hS'
    have y2 := hS'.2.2
    have y3 := hS'.2.1
    have z0 := y2.get 0 rfl
    have z1 := y2.get 1 rfl
    have z2 := y2.get 2 rfl
    have z3 := y2.get 3 rfl
    have z4 := y2.get 4 rfl
    have zl := y2.lt
    have zf0 := y2.frozen 0
    have zf1 := y2.frozen 1
    have zf2 := y2.frozen 2
    have zf3 := y2.frozen 3
    have zf4 := y2.frozen 4
    have x0 := y3.get 0 rfl
    have xl := y3.lt
    have xf := y3.frozen 0
    clear y2 y3
    go_simp
    try rfl
  try simp only [Act.put, List.setIfInBounds_toArray, List.set_cons_zero, List.set_cons_succ, List.getElem_toArray, List.getElem_cons_zero, List.getElem_cons_succ]
  refine wpAnyS_done (b := true) (d := true) (by kernel_rfl) (by kernel_rfl) (by kernel_rfl) rfl (fun w9 hS => ?_) _
  have H9 := Lib.hid hS
  have x0 := hS.2.1.get 0 rfl
  have z0 := hS.2.2.get 0 rfl
  have z1 := hS.2.2.get 1 rfl
  have z2 := hS.2.2.get 2 rfl
  have z3 := hS.2.2.get 3 rfl
  have z4 := hS.2.2.get 4 rfl
  clear hS E0
  go_wp2_with fail
  refine bodyPost_ret (v := .tuple #[.agg #[.int .i64 0, .int .i64 0, .int .i64 uw, .int .i64 0, .slice none 0 0], .bool false]) ?_ rfl ⟨rfl, H9.out.1⟩
  simp [results, Tryz.results182, go_sem, x0, z0, z1, z2, z3, z4]
end
end Go.Proofs.YtjhfcpadnofdnaaGreat
