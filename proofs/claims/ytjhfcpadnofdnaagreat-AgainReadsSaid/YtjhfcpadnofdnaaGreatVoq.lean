/- again.anew and again.Layout at trees of one node; jambref29.Numbers. -/
import Derived.Test.YtjhfcpadnofdnaaGreatVom
import Derived.Test.YtjhfcpadnofdnaaGreatVon
set_option linter.unusedSimpArgs false
set_option linter.unusedVariables false
namespace Go.Proofs.YtjhfcpadnofdnaaGreat
open Go.RowKit
attribute [local go_sem] block_of_add Oper.semAt_some
theorem blk_own {W W' : World} {g B : Nat} {t : TypeId} {cs : Array Value} (h : Blk W g t cs) {row : Option Nat} (hg : W.grownBy W' row) (hr : ∀ r, row = some r → B ≤ r ∧ ∃ o : Obj, W.heap[r]? = some o ∧ o.isCells = false) : Blk W' g t cs :=
  (hg.block g h.lt (fun e => by
    obtain ⟨_, o, ho, hc⟩ := hr _ e.symm
    rw [show W.heap[g]? = some (.cells cs t (0, 0)) from h] at ho
    injection ho with ho
    subst ho
    exact absurd hc (by simp [Obj.isCells]))).trans h
theorem blk_put {W : World} {D g : Nat} {t : TypeId} {cs : Array Value} (h : Blk W g t cs) (hk : W.heap[D]? = some (.deferred (some []))) : Blk (W.putObj D (.deferred none)) g t cs := (World.putObj_heap_other (by
  rintro rfl
  unfold Blk at h
  rw [h] at hk
  simp at hk)).trans h
theorem own_blkV {w : World} {base : Nat} {e : TypeId} {A : Option Addr} {n c : Nat} {xs : List Value} (h : w.ownsRow base e 1 (.slice A n c) n xs) (h0 : 0 < n) : ∃ g cur, A = some ⟨g, 0, none⟩ ∧ Blk w g e cur ∧ base ≤ g ∧ ∀ x, xs[0]? = some x → cur[0]? = some x := by
  rcases h.2 with ⟨e1, e2⟩ | ⟨g, cap, cur, e1, e2, e3, e4, e5, e6, e7⟩
  · omega
  · injection e1 with e1 _ _
    refine ⟨g, cur, e1, e3, e2, fun x hx => ?_⟩
    rw [← e7, List.getElem?_take] at hx
    rw [← Array.getElem?_toList]
    split at hx
    · exact hx
    · simp at hx
theorem wpListIn_appV {F : Fence} {k : Nat} {P : Program} {w : World} {o : Oper} {a : Act} {t e : TypeId} {z : Value} {bytes size base n m : Nat} {v : Value} {xs : List Value} {ops : Array Oper} {rest : List Oper} {Q : Exit → Act → World → Prop} (hgd : o.guard = none) (s x : Operand)
    (ho : o.op = .call { callee := .builtin .append, args := #[s, x], argTypes := #[t, t] }) (hE : El P t e z size bytes) (hown : w.ownsRow base e size v n xs) (hbase : base ≤ w.heap.size) (hs : a.eval s = v)
    (news : List Value) (hx : a.eval x = .slice (some ⟨w.heap.size, 0, none⟩) m m) (hl : news.length = m * size) (h1 : ∀ u ∈ news, u.oneCell' = true) (h63 : n + m ≤ 4294967296) (hby : bytes ≤ 32768)
    (h : ∀ A' c' w', w'.ownsRow base e size (.slice A' (n + m) c') (n + m) (xs ++ news) → (∀ B w0, B ≤ base → Below B w0 w → Below B w0 w') → w.grownBy w' v.ownBlock →
      ((Value.slice A' (n + m) c').ownBlock = v.ownBlock ∨ w.heap.size ≤ ((Value.slice A' (n + m) c').ownBlock).getD w.heap.size) → wpListIn F k P ops Q rest (a.put o.dst (.slice A' (n + m) c')) w') :
    wpListIn F k P ops Q (o :: rest) a (w.alloc (.cells news.toArray e)) := by
  refine wpListIn_plain hgd fun K hK' => ?_
  obtain ⟨A', c', w', hrun, h2, h3, h4, h5⟩ := run_app (P := P) hE o.type hown hbase news hl h1 h63 hby
  unfold Oper.wpIn
  refine ⟨?_, ?_⟩
  · simp [Oper.about, ho, resolve, Target.leads, Sem.run_pure]
  · rw [Oper.semAt_plain F _ _ (by rw [ho]; intro c hc'; cases hc')]
    simp only [execOp, ho, resolve, invoke, builtin, Sem.run_bind, Sem.run_pure, Result.andThen_ok, List.map_toArray, List.map_cons, List.map_nil, hs, hx, hrun]
    exact hK' _ _ (h A' c' w' h2 h3 h4 h5)
section
variable {gN gC gU gH gF gC' gU' gH' gF' : Nat} {v v2 : Int} {w : World}
set_option maxRecDepth 100000 in
set_option maxHeartbeats 4000000 in
theorem aanew_call : Calls Tryz.prog 57 #[.agg #[.slice (some ⟨gN, 0, none⟩) 1 1, .slice none 0 0, .int .i64 v], .agg #[.slice (some ⟨gC, 0, none⟩) 1 1, .slice (some ⟨gU, 0, none⟩) 1 1, .slice (some ⟨gH, 0, none⟩) 1 1, .slice (some ⟨gF, 0, none⟩) 1 1], .agg #[.slice (some ⟨gN, 0, none⟩) 1 1, .slice none 0 0, .int .i64 v2], .agg #[.slice (some ⟨gC', 0, none⟩) 1 1, .slice (some ⟨gU', 0, none⟩) 1 1, .slice (some ⟨gH', 0, none⟩) 1 1, .slice (some ⟨gF', 0, none⟩) 1 1]] w fun e w' => e = .returned (.func (.func 111) #[] #[.pointer (some ⟨w.heap.size + 1 + 1, 0, none⟩), .pointer (some ⟨w.heap.size, 0, none⟩), .pointer (some ⟨w.heap.size + 1, 0, none⟩), .pointer (some ⟨w.heap.size + 1 + 1 + 1, 0, none⟩)]) ∧ (((w.alloc (.cells #[.slice (some ⟨gN, 0, none⟩) 1 1, .slice none 0 0, .int .i64 v] 25)).alloc (.cells #[.slice (some ⟨gC, 0, none⟩) 1 1, .slice (some ⟨gU, 0, none⟩) 1 1, .slice (some ⟨gH, 0, none⟩) 1 1, .slice (some ⟨gF, 0, none⟩) 1 1] 32)).alloc (.cells #[.slice (some ⟨gN, 0, none⟩) 1 1, .slice none 0 0, .int .i64 v2] 25)).alloc (.cells #[.slice (some ⟨gC', 0, none⟩) 1 1, .slice (some ⟨gU', 0, none⟩) 1 1, .slice (some ⟨gH', 0, none⟩) 1 1, .slice (some ⟨gF', 0, none⟩) 1 1] 32) = w' := by
  go_enter Tryz.func57, Tryz.ntmps57
  go_wp2_with fail
  go_ret
  exact ⟨rfl, rfl⟩
set_option maxRecDepth 100000 in
set_option maxHeartbeats 4000000 in
theorem aanew_seq (n : Nat) (hn1 : 1 ≤ n) (b0 : Bool) (g4 g5 g6 g7 n0 : Nat) (w0 : World) (h4 : Blk w0 g4 25 #[.slice (some ⟨gN, 0, none⟩) 1 1, .slice none 0 0, .int .i64 v]) (h5 : Blk w0 g5 32 #[.slice (some ⟨gC, 0, none⟩) 1 1, .slice (some ⟨gU, 0, none⟩) 1 1, .slice (some ⟨gH, 0, none⟩) 1 1, .slice (some ⟨gF, 0, none⟩) 1 1]) (h6 : Blk w0 g6 25 #[.slice (some ⟨gN, 0, none⟩) 1 1, .slice none 0 0, .int .i64 v2]) (h7 : Blk w0 g7 32 #[.slice (some ⟨gC', 0, none⟩) 1 1, .slice (some ⟨gU', 0, none⟩) 1 1, .slice (some ⟨gH', 0, none⟩) 1 1, .slice (some ⟨gF', 0, none⟩) 1 1]) (hn : Blk w0 gN 69 (ndsCells l1V).toArray)
    (hs : ∀ W, Below w0.heap.size w0 W → Calls Tryz.prog 113 #[.agg #[.slice (some ⟨gN, 0, none⟩) 1 1, .slice none 0 0, .int .i64 v], .agg #[.slice (some ⟨gC, 0, none⟩) 1 1, .slice (some ⟨gU, 0, none⟩) 1 1, .slice (some ⟨gH, 0, none⟩) 1 1, .slice (some ⟨gF, 0, none⟩) 1 1], .agg #[.slice (some ⟨gN, 0, none⟩) 1 1, .slice none 0 0, .int .i64 v2], .agg #[.slice (some ⟨gC', 0, none⟩) 1 1, .slice (some ⟨gU', 0, none⟩) 1 1, .slice (some ⟨gH', 0, none⟩) 1 1, .slice (some ⟨gF', 0, none⟩) 1 1], .int .i64 0] W fun e w' => e = .returned (.bool b0) ∧ Below W.heap.size W w') :
    SeqStopsK Fence.wide n Tryz.prog 111 #[.pointer (some ⟨g6, 0, none⟩), .pointer (some ⟨g4, 0, none⟩), .pointer (some ⟨g5, 0, none⟩), .pointer (some ⟨g7, 0, none⟩)] (fun _ : Unit => #[.int .i64 0]) (Below n0) (fun xs => xs = if b0 then [] else [()]) (fun pre => pre = if b0 then [] else [()]) 1 w0 := by
  intro l J Jx W hW hJ hJx hY h0
  refine callsIn_of_wp Tryz.func111 rfl trivial ?_ rfl
  simp only [Tryz.ntmps111, List.size_toArray, List.length_cons, List.length_nil, Nat.reduceAdd, Nat.reduceSub, Array.replicate_succ, Array.replicate_zero, List.push_toArray, List.append_toArray, List.nil_append, List.cons_append]
  have H6 := Lib.hid (h6.below hW h6.lt)
  have HT : Hid (∀ W', Below W.heap.size W W' → Blk W' g4 25 #[.slice (some ⟨gN, 0, none⟩) 1 1, .slice none 0 0, .int .i64 v] ∧ Blk W' g5 32 #[.slice (some ⟨gC, 0, none⟩) 1 1, .slice (some ⟨gU, 0, none⟩) 1 1, .slice (some ⟨gH, 0, none⟩) 1 1, .slice (some ⟨gF, 0, none⟩) 1 1] ∧ Blk W' g6 25 #[.slice (some ⟨gN, 0, none⟩) 1 1, .slice none 0 0, .int .i64 v2] ∧ Blk W' g7 32 #[.slice (some ⟨gC', 0, none⟩) 1 1, .slice (some ⟨gU', 0, none⟩) 1 1, .slice (some ⟨gH', 0, none⟩) 1 1, .slice (some ⟨gF', 0, none⟩) 1 1]) := Lib.hid (fun W' h => by
    have hb := hW.trans (h.mono hW.size)
    exact ⟨h4.below hb h4.lt, h5.below hb h5.lt, h6.below hb h6.lt, h7.below hb h7.lt⟩)
  have HRO := Lib.hid (roots_one (v := v2) (hn.below hW hn.lt))
  have HS := Lib.hid (fun W' (h : Below W.heap.size W W') => hs W' (hW.trans (h.mono hW.size)))
  have H0 := Lib.hid h0
  clear h4 h5 h6 h7 hn hs hW h0
  have t0 := H6.out.get 0 rfl
  have t1 := H6.out.get 1 rfl
  have t2 := H6.out.get 2 rfl
  have tl := H6.out.lt
  gi_wp2_with (refine ⟨trivial, ?_⟩; gi_at_call 112; refine (callsIn_wide.2 HRO.out).mono ?_; rintro e W2 ⟨⟨gO, cO, rfl, o0, o1, o2⟩, hb2⟩)
  have HB2 := Lib.hid hb2
  have HJ2 := Lib.hid (hJ _ _ _ none H0.out (grown0 hb2) (fun r e => by cases e))
  obtain ⟨k4, k5, k6, k7⟩ := HT.out W2 hb2
  clear t0 t1 t2 tl o1 hb2
  have a40 := k4.get 0 rfl
  have a41 := k4.get 1 rfl
  have a42 := k4.get 2 rfl
  have a4l := k4.lt
  have a50 := k5.get 0 rfl
  have a51 := k5.get 1 rfl
  have a52 := k5.get 2 rfl
  have a53 := k5.get 3 rfl
  have a5l := k5.lt
  have a60 := k6.get 0 rfl
  have a61 := k6.get 1 rfl
  have a62 := k6.get 2 rfl
  have a6l := k6.lt
  have a70 := k7.get 0 rfl
  have a71 := k7.get 1 rfl
  have a72 := k7.get 2 rfl
  have a73 := k7.get 3 rfl
  have a7l := k7.lt
  clear k4 k5 k6 k7
  gi_wp2
  cases b0
  · refine wpIn_loop_rounds 2 ?_
    rw [roundsIn_succ]
    gi_wp2_with (refine ⟨trivial, ?_⟩; gi_at_call 113; refine (callsIn_wide.2 (HS.out _ HB2.out)).mono ?_; rintro e W3 ⟨rfl, hb3⟩)
    have HJ3 := Lib.hid (hJ _ _ _ none HJ2.out (grown0 hb3) (fun r e => by cases e))
    clear a40 a41 a42 a4l a50 a51 a52 a53 a5l a60 a61 a62 a6l a70 a71 a72 a73 a7l hb3 o0 o2
    obtain ⟨fn, tmps, assign, body, hy, hR⟩ := hY [] () _ HJ3.out (by simp)
    have hy2 : (Instr.yield l #[.int .i64 0]).run Tryz.prog W3 = .ok (.round l fn tmps assign body) W3 := hy
    gi_wp2
    rw [hy2]
    refine ⟨fun _ => hn1, hR.mono ?_⟩
    rintro e W4 (⟨rfl, hJ4, hk4⟩ | ⟨rfl, hx4⟩)
    · have HJ4 := Lib.hid hJ4
      clear hR hy hy2 hJ4 hk4
      gi_wp2
      rw [roundsIn_succ]
      gi_wp2
      go_end0
      exact ⟨⟨_, rfl⟩, .inl HJ4.out⟩
    · have HX4 := Lib.hid hx4
      clear hR hy hy2 hx4
      gi_wp2
      refine bodyPost_ret (results_none rfl _ _ _) rfl ?_
      exact ⟨⟨_, rfl⟩, .inr HX4.out⟩
  · refine wpIn_wide.2 ?_
    refine wp_loop_rounds 2 ?_
    rw [rounds_succ]
    go_wp2_with (go_at_call 113; refine (HS.out _ HB2.out).mono ?_; rintro e W3 ⟨rfl, hb3⟩)
    have HJ3 := Lib.hid (hJ _ _ _ none HJ2.out (grown0 hb3) (fun r e => by cases e))
    clear a40 a41 a42 a4l a50 a51 a52 a53 a5l a60 a61 a62 a6l a70 a71 a72 a73 a7l hb3 o0 o2
    go_wp2_with fail
    rw [rounds_succ]
    go_wp2_with fail
    go_end0
    exact ⟨⟨_, rfl⟩, .inl HJ3.out⟩
/-- What lies in the results behind j rounds. -/
def DoneI (gD gR : Nat) (gC' gU' gH' gF' : Nat) (v2 : Int) (w : World) (pre : List Unit) (W : World) : Prop :=
  (((pre = [] ∧ Blk W gD 50 #[.slice none 0 0]) ∨ (pre = [()] ∧ ∃ g c cur, Blk W gD 50 #[.slice (some ⟨g, 0, none⟩) 1 c] ∧ Blk W g 3 cur ∧ cur[0]? = some (.int .i64 0))) ∧ TabV gC' gU' gH' gF' v2 W ∧ Blk W gR 32 #[.slice (some ⟨gC', 0, none⟩) 1 1, .slice (some ⟨gU', 0, none⟩) 1 1, .slice (some ⟨gH', 0, none⟩) 1 1, .slice (some ⟨gF', 0, none⟩) 1 1]) ∧ Below w.heap.size w W
theorem doneI_own (gD gR B : Nat) (hB : w.heap.size ≤ B) : OwnFrom B (DoneI gD gR gC' gU' gH' gF' v2 w) := by
  refine OwnFrom.and (fun s A C row hs hg hr => ?_) (ownFrom_below (Nat.le_refl _) hB)
  obtain ⟨h1, h2, h3⟩ := hs
  refine ⟨?_, ⟨blk_own h2.c hg hr, blk_own h2.u hg hr, blk_own h2.h hg hr, blk_own h2.f hg hr⟩, blk_own h3 hg hr⟩
  rcases h1 with ⟨a, b⟩ | ⟨a, g, c, cur, b, d, e⟩
  · exact .inl ⟨a, blk_own b hg hr⟩
  · exact .inr ⟨a, g, c, cur, blk_own b hg hr, blk_own d hg hr, e⟩
/-- What again.Layout answers. -/
def doneV (b0 : Bool) (W : World) (x : Value) : Prop := if b0 then x = .slice none 0 0 else ∃ g c cur, x = .slice (some ⟨g, 0, none⟩) 1 c ∧ Blk W g 3 cur ∧ cur[0]? = some (.int .i64 0)
theorem results_cctt {fn : Func} {p q u u2 : Tmp} {ty ty2 : TypeId} (h : fn.results = #[.cell p ty, .cell q ty2, .tmp u, .tmp u2]) (tmps : Array Value) (P : Program) (w : World) :
    (results fn tmps).run P w =
      ((asAddr (tmps.getD p undef)).run P w).andThen fun a w₁ => ((loadVar ty a).run P w₁).andThen fun v w₂ => ((asAddr (tmps.getD q undef)).run P w₂).andThen fun b w₃ => ((loadVar ty2 b).run P w₃).andThen fun x w₄ => .ok (.tuple #[v, x, tmps.getD u undef, tmps.getD u2 undef]) w₄ := by
  simp only [results, h]
  simp [Sem.run_bind, Result.andThen]
theorem run_load_one (w : World) (g : Nat) (x : Value) (hd : Blk w g 50 #[x]) : (loadVar 50 ⟨g, 0, none⟩).run Tryz.prog w = .ok x w := by
  have h7 := hd.c1
  simp [go_sem, h7]
theorem res_alV {fn : Func} (hr : fn.results = #[.cell 6 32, .cell 7 50, .tmp 8, .tmp 9]) (tmps : Array Value) (w : World) (g gd : Nat) (a b c d x v8 v9 : Value) (hp : tmps.getD 6 undef = .pointer (some ⟨g, 0, none⟩)) (hp7 : tmps.getD 7 undef = .pointer (some ⟨gd, 0, none⟩)) (h8 : tmps.getD 8 undef = v8) (h9 : tmps.getD 9 undef = v9) (hg : Blk w g 32 #[a, b, c, d]) (hd : Blk w gd 50 #[x]) :
    (results fn tmps).run Tryz.prog w = .ok (.tuple #[.agg #[a, b, c, d], x, v8, v9]) w := by
  rw [results_cctt hr, hp, hp7, h8, h9]
  have h := run_loadVar_row (P := Tryz.prog) w g 32 32 #[a, b, c, d] (0, 0) _ hg Tryz.underlying32 rfl (by kernel_rfl)
  have h7 := run_load_one w gd x hd
  simp [asAddr, h, h7, Result.andThen]
set_option maxRecDepth 100000 in
set_option maxHeartbeats 4000000 in
theorem alayout_err (hmay : ∀ W : World, Blk W gN 69 (ndsCells l1V).toArray → Calls Tryz.prog 35 #[.agg #[.slice (some ⟨gN, 0, none⟩) 1 1, .slice none 0 0, .int .i64 v]] W fun e w' => e = .returned (.bool true) ∧ Below W.heap.size W w') (hv : VwV v) (hne : v ≠ 100) (hn : Blk w gN 69 (ndsCells l1V).toArray) (hX : TabV gC gU gH gF 100 w) :
    Calls Tryz.prog 32 #[.agg #[.slice (some ⟨gN, 0, none⟩) 1 1, .slice none 0 0, .int .i64 v], .agg #[.slice (some ⟨gC, 0, none⟩) 1 1, .slice (some ⟨gU, 0, none⟩) 1 1, .slice (some ⟨gH, 0, none⟩) 1 1, .slice (some ⟨gF, 0, none⟩) 1 1], .agg #[.slice (some ⟨gN, 0, none⟩) 1 1, .slice none 0 0, .int .i64 v2]] w fun e w' => e = .returned (.tuple #[.agg #[.slice none 0 0, .slice none 0 0, .slice none 0 0, .slice none 0 0], .slice none 0 0, .int .i64 0, .int .i64 1]) ∧ Below w.heap.size w w' := by
  obtain ⟨w1, hw1⟩ : ∃ W, W = ((((w.alloc (.cells #[.slice (some ⟨gN, 0, none⟩) 1 1, .slice none 0 0, .int .i64 v] 25)).alloc (.cells #[.slice (some ⟨gC, 0, none⟩) 1 1, .slice (some ⟨gU, 0, none⟩) 1 1, .slice (some ⟨gH, 0, none⟩) 1 1, .slice (some ⟨gF, 0, none⟩) 1 1] 32)).alloc (.cells #[.slice (some ⟨gN, 0, none⟩) 1 1, .slice none 0 0, .int .i64 v2] 25)).alloc (.cells #[.slice none 0 0, .slice none 0 0, .slice none 0 0, .slice none 0 0] 32)).alloc (.cells #[.slice none 0 0] 50) := ⟨_, rfl⟩
  obtain ⟨gT, hgT⟩ : ∃ g, g = w.heap.size := ⟨_, rfl⟩
  have HT1 : Hid (Blk w1 gT 25 #[.slice (some ⟨gN, 0, none⟩) 1 1, .slice none 0 0, .int .i64 v]) := Lib.hid (by rw [hw1, hgT]; exact ((((Blk.new _ _ _).alloc _).alloc _).alloc _).alloc _)
  have HX1 : Hid (Blk w1 (gT + 1) 32 #[.slice (some ⟨gC, 0, none⟩) 1 1, .slice (some ⟨gU, 0, none⟩) 1 1, .slice (some ⟨gH, 0, none⟩) 1 1, .slice (some ⟨gF, 0, none⟩) 1 1]) := Lib.hid (by rw [hw1, hgT]; exact (((Blk.at_ _ _ _ (by simp)).alloc _).alloc _).alloc _)
  have HU1 : Hid (Blk w1 (gT + 1 + 1) 25 #[.slice (some ⟨gN, 0, none⟩) 1 1, .slice none 0 0, .int .i64 v2]) := Lib.hid (by rw [hw1, hgT]; exact ((Blk.at_ _ _ _ (by simp)).alloc _).alloc _)
  have HR1 : Hid (Blk w1 (gT + 1 + 1 + 1) 32 #[.slice none 0 0, .slice none 0 0, .slice none 0 0, .slice none 0 0]) := Lib.hid (by rw [hw1, hgT]; exact (Blk.at_ _ _ _ (by simp)).alloc _)
  have HD1 : Hid (Blk w1 (gT + 1 + 1 + 1 + 1) 50 #[.slice none 0 0]) := Lib.hid (by rw [hw1, hgT]; exact Blk.at_ _ _ _ (by simp))
  have HB1 : Hid (Below w.heap.size w w1) := Lib.hid (by rw [hw1]; exact (((((Below.refl _ _).alloc (Nat.le_refl _) _).alloc (by simp) _).alloc (by simp; omega) _).alloc (by simp; omega) _).alloc (by simp; omega) _)
  obtain ⟨gR, hgR⟩ : ∃ g, g = gT + 1 + 1 + 1 := ⟨_, rfl⟩
  obtain ⟨gD, hgD⟩ : ∃ g, g = gR + 1 := ⟨_, rfl⟩
  have HGE : Hid (w.heap.size ≤ gR ∧ w.heap.size ≤ gD ∧ gT ≠ gR ∧ gT ≠ gD ∧ gT + 1 ≠ gR ∧ gT + 1 ≠ gD ∧ gT + 1 + 1 ≠ gR ∧ gT + 1 + 1 ≠ gD ∧ gR ≠ gD ∧ gD ≠ gR) := Lib.hid (by omega)
  rw [← hgR] at HR1 HD1
  rw [← hgD] at HD1
  have HN := Lib.hid (fun W' (h : Below w.heap.size w W') => hn.below h hn.lt)
  have HMAY := Lib.hid (fun W' (h : Below w.heap.size w W') => hmay W' (HN.out W' h))
  have HVAL := Lib.hid (fun W' (h : Below w.heap.size w W') => vvalid_one hv (HN.out W' h) (hX.below h))
  rw [decide_eq_false hne] at HVAL
  clear hn hmay hX hne hv
  go_enter Tryz.func32, Tryz.ntmps32
  go_upto_region 1 with (fail)
  rw [← hw1, ← hgT]
  rw [← hgR]
  rw [← hgD]
  clear hw1 hgT hgR hgD
  have t0 := HT1.out.get 0 rfl
  have t1 := HT1.out.get 1 rfl
  have t2 := HT1.out.get 2 rfl
  have tl := HT1.out.lt
  have x0 := HX1.out.get 0 rfl
  have x1 := HX1.out.get 1 rfl
  have x2 := HX1.out.get 2 rfl
  have x3 := HX1.out.get 3 rfl
  have xl := HX1.out.lt
  go_upto_region 2 with (first | (go_at_call 35; refine (HMAY.out _ HB1.out).mono ?_; rintro e w2 ⟨rfl, hb⟩; have HT2 := Lib.hid (HT1.out.below hb HT1.out.lt); have HX2 := Lib.hid (HX1.out.below hb HX1.out.lt); have HU2 := Lib.hid (HU1.out.below hb HU1.out.lt); have HR2 := Lib.hid (HR1.out.below hb HR1.out.lt); have HD2 := Lib.hid (HD1.out.below hb HD1.out.lt); have HB2 := Lib.hid (HB1.out.trans (hb.mono HB1.out.size)); clear hb t0 t1 t2 tl x0 x1 x2 x3 xl; have t0 := HT2.out.get 0 rfl; have t1 := HT2.out.get 1 rfl; have t2 := HT2.out.get 2 rfl; have tl := HT2.out.lt; have x0 := HX2.out.get 0 rfl; have x1 := HX2.out.get 1 rfl; have x2 := HX2.out.get 2 rfl; have x3 := HX2.out.get 3 rfl; have xl := HX2.out.lt) | (go_at_call 10; refine (HVAL.out _ HB2.out).mono ?_; rintro e w3 ⟨rfl, hb⟩; have HT3 := Lib.hid (HT2.out.below hb HT2.out.lt); have HX3 := Lib.hid (HX2.out.below hb HX2.out.lt); have HU3 := Lib.hid (HU2.out.below hb HU2.out.lt); have HR3 := Lib.hid (HR2.out.below hb HR2.out.lt); have HD3 := Lib.hid (HD2.out.below hb HD2.out.lt); have HB3 := Lib.hid (HB2.out.trans (hb.mono HB2.out.size)); clear hb t0 t1 t2 tl x0 x1 x2 x3 xl))
  have r0 := HR3.out.get 0 rfl
  have r1 := HR3.out.get 1 rfl
  have r2 := HR3.out.get 2 rfl
  have r3 := HR3.out.get 3 rfl
  have rl := HR3.out.lt
  have rf := HR3.out.frozen
  have d0 := HD3.out.get 0 rfl
  have dl := HD3.out.lt
  have df := HD3.out.frozen 0
  have hRD := HGE.out.2.2.2.2.2.2.2.2.1
  have hDR := HGE.out.2.2.2.2.2.2.2.2.2
  go_wp2_with fail
  have HRE : Hid (Blk (((((w3.setCell ⟨gR, 0, none⟩ (.slice none 0 0)).setCell ⟨gR, 1, none⟩ (.slice none 0 0)).setCell ⟨gR, 2, none⟩ (.slice none 0 0)).setCell ⟨gR, 3, none⟩ (.slice none 0 0)).setCell ⟨gD, 0, none⟩ (.slice none 0 0)) gR 32 #[.slice none 0 0, .slice none 0 0, .slice none 0 0, .slice none 0 0]) := Lib.hid (by simpa using ((((HR3.out.set_ 0 (.slice none 0 0)).set_ 1 (.slice none 0 0)).set_ 2 (.slice none 0 0)).set_ 3 (.slice none 0 0)).far (p := ⟨gD, 0, none⟩) hRD (.slice none 0 0))
  have HDE : Hid (Blk (((((w3.setCell ⟨gR, 0, none⟩ (.slice none 0 0)).setCell ⟨gR, 1, none⟩ (.slice none 0 0)).setCell ⟨gR, 2, none⟩ (.slice none 0 0)).setCell ⟨gR, 3, none⟩ (.slice none 0 0)).setCell ⟨gD, 0, none⟩ (.slice none 0 0)) gD 50 #[.slice none 0 0]) := Lib.hid (by simpa using ((((HD3.out.far (p := ⟨gR, 0, none⟩) hDR (.slice none 0 0)).far (p := ⟨gR, 1, none⟩) hDR (.slice none 0 0)).far (p := ⟨gR, 2, none⟩) hDR (.slice none 0 0)).far (p := ⟨gR, 3, none⟩) hDR (.slice none 0 0)).set_ 0 (.slice none 0 0))
  have HBE : Hid (Below w.heap.size w (((((w3.setCell ⟨gR, 0, none⟩ (.slice none 0 0)).setCell ⟨gR, 1, none⟩ (.slice none 0 0)).setCell ⟨gR, 2, none⟩ (.slice none 0 0)).setCell ⟨gR, 3, none⟩ (.slice none 0 0)).setCell ⟨gD, 0, none⟩ (.slice none 0 0))) := Lib.hid (((((HB3.out.setCell (p := ⟨gR, 0, none⟩) HGE.out.1 _).setCell (p := ⟨gR, 1, none⟩) HGE.out.1 _).setCell (p := ⟨gR, 2, none⟩) HGE.out.1 _).setCell (p := ⟨gR, 3, none⟩) HGE.out.1 _).setCell (p := ⟨gD, 0, none⟩) HGE.out.2.1 _)
  refine bodyPost_ret (res_alV Tryz.results32 _ _ gR gD _ _ _ _ _ _ _ rfl rfl rfl rfl HRE.out HDE.out) rfl ⟨rfl, HBE.out⟩
set_option maxRecDepth 100000 in
set_option maxHeartbeats 4000000 in
theorem alayout_ok (b0 : Bool) (hmay : ∀ W : World, Blk W gN 69 (ndsCells l1V).toArray → Calls Tryz.prog 35 #[.agg #[.slice (some ⟨gN, 0, none⟩) 1 1, .slice none 0 0, .int .i64 100]] W fun e w' => e = .returned (.bool true) ∧ Below W.heap.size W w') (hlay : ∀ W : World, Blk W gN 69 (ndsCells l1V).toArray → Calls Tryz.prog 56 #[.agg #[.slice (some ⟨gN, 0, none⟩) 1 1, .slice none 0 0, .int .i64 v2]] W fun e w' => (∃ gC gU gH gF, e = .returned (.tuple #[.agg #[.slice (some ⟨gC, 0, none⟩) 1 1, .slice (some ⟨gU, 0, none⟩) 1 1, .slice (some ⟨gH, 0, none⟩) 1 1, .slice (some ⟨gF, 0, none⟩) 1 1], .int .i64 0, .int .i64 0]) ∧ TabV gC gU gH gF v2 w') ∧ Below W.heap.size W w')
    (hs : ∀ (gC' gU' gH' gF' : Nat) (W : World), Below w.heap.size w W → TabV gC' gU' gH' gF' v2 W → Calls Tryz.prog 113 #[.agg #[.slice (some ⟨gN, 0, none⟩) 1 1, .slice none 0 0, .int .i64 100], .agg #[.slice (some ⟨gC, 0, none⟩) 1 1, .slice (some ⟨gU, 0, none⟩) 1 1, .slice (some ⟨gH, 0, none⟩) 1 1, .slice (some ⟨gF, 0, none⟩) 1 1], .agg #[.slice (some ⟨gN, 0, none⟩) 1 1, .slice none 0 0, .int .i64 v2], .agg #[.slice (some ⟨gC', 0, none⟩) 1 1, .slice (some ⟨gU', 0, none⟩) 1 1, .slice (some ⟨gH', 0, none⟩) 1 1, .slice (some ⟨gF', 0, none⟩) 1 1], .int .i64 0] W fun e w' => e = .returned (.bool b0) ∧ Below W.heap.size W w')
    (hn : Blk w gN 69 (ndsCells l1V).toArray) (hX : TabV gC gU gH gF 100 w) :
    Calls Tryz.prog 32 #[.agg #[.slice (some ⟨gN, 0, none⟩) 1 1, .slice none 0 0, .int .i64 100], .agg #[.slice (some ⟨gC, 0, none⟩) 1 1, .slice (some ⟨gU, 0, none⟩) 1 1, .slice (some ⟨gH, 0, none⟩) 1 1, .slice (some ⟨gF, 0, none⟩) 1 1], .agg #[.slice (some ⟨gN, 0, none⟩) 1 1, .slice none 0 0, .int .i64 v2]] w fun e w' => (∃ gC' gU' gH' gF' x, e = .returned (.tuple #[.agg #[.slice (some ⟨gC', 0, none⟩) 1 1, .slice (some ⟨gU', 0, none⟩) 1 1, .slice (some ⟨gH', 0, none⟩) 1 1, .slice (some ⟨gF', 0, none⟩) 1 1], x, .int .i64 0, .int .i64 0]) ∧ TabV gC' gU' gH' gF' v2 w' ∧ doneV b0 w' x) ∧ Below w.heap.size w w' := by
  refine (callsIn_wide (n := 5)).1 ?_
  refine callsIn_of_wp_marks Tryz.func32 rfl trivial ?_ rfl
  simp only [Tryz.ntmps32, List.size_toArray, List.length_cons, List.length_nil, Nat.reduceAdd, Nat.reduceSub, Array.replicate_succ, Array.replicate_zero, List.push_toArray, List.append_toArray, List.nil_append, List.cons_append]
  refine wpIn_wide.2 ?_
  obtain ⟨w1, hw1⟩ : ∃ W, W = ((((w.alloc (.cells #[.slice (some ⟨gN, 0, none⟩) 1 1, .slice none 0 0, .int .i64 100] 25)).alloc (.cells #[.slice (some ⟨gC, 0, none⟩) 1 1, .slice (some ⟨gU, 0, none⟩) 1 1, .slice (some ⟨gH, 0, none⟩) 1 1, .slice (some ⟨gF, 0, none⟩) 1 1] 32)).alloc (.cells #[.slice (some ⟨gN, 0, none⟩) 1 1, .slice none 0 0, .int .i64 v2] 25)).alloc (.cells #[.slice none 0 0, .slice none 0 0, .slice none 0 0, .slice none 0 0] 32)).alloc (.cells #[.slice none 0 0] 50) := ⟨_, rfl⟩
  obtain ⟨gT, hgT⟩ : ∃ g, g = w.heap.size := ⟨_, rfl⟩
  have HT1 : Hid (Blk w1 gT 25 #[.slice (some ⟨gN, 0, none⟩) 1 1, .slice none 0 0, .int .i64 100]) := Lib.hid (by rw [hw1, hgT]; exact ((((Blk.new _ _ _).alloc _).alloc _).alloc _).alloc _)
  have HX1 : Hid (Blk w1 (gT + 1) 32 #[.slice (some ⟨gC, 0, none⟩) 1 1, .slice (some ⟨gU, 0, none⟩) 1 1, .slice (some ⟨gH, 0, none⟩) 1 1, .slice (some ⟨gF, 0, none⟩) 1 1]) := Lib.hid (by rw [hw1, hgT]; exact (((Blk.at_ _ _ _ (by simp)).alloc _).alloc _).alloc _)
  have HU1 : Hid (Blk w1 (gT + 1 + 1) 25 #[.slice (some ⟨gN, 0, none⟩) 1 1, .slice none 0 0, .int .i64 v2]) := Lib.hid (by rw [hw1, hgT]; exact ((Blk.at_ _ _ _ (by simp)).alloc _).alloc _)
  have HR1 : Hid (Blk w1 (gT + 1 + 1 + 1) 32 #[.slice none 0 0, .slice none 0 0, .slice none 0 0, .slice none 0 0]) := Lib.hid (by rw [hw1, hgT]; exact (Blk.at_ _ _ _ (by simp)).alloc _)
  have HD1 : Hid (Blk w1 (gT + 1 + 1 + 1 + 1) 50 #[.slice none 0 0]) := Lib.hid (by rw [hw1, hgT]; exact Blk.at_ _ _ _ (by simp))
  have HB1 : Hid (Below w.heap.size w w1) := Lib.hid (by rw [hw1]; exact (((((Below.refl _ _).alloc (Nat.le_refl _) _).alloc (by simp) _).alloc (by simp; omega) _).alloc (by simp; omega) _).alloc (by simp; omega) _)
  obtain ⟨gR, hgR⟩ : ∃ g, g = gT + 1 + 1 + 1 := ⟨_, rfl⟩
  obtain ⟨gD, hgD⟩ : ∃ g, g = gR + 1 := ⟨_, rfl⟩
  have HGE : Hid (w.heap.size ≤ gR ∧ w.heap.size ≤ gD ∧ gT ≠ gR ∧ gT ≠ gD ∧ gT + 1 ≠ gR ∧ gT + 1 ≠ gD ∧ gT + 1 + 1 ≠ gR ∧ gT + 1 + 1 ≠ gD ∧ gR ≠ gD ∧ gD ≠ gR) := Lib.hid (by omega)
  rw [← hgR] at HR1 HD1
  rw [← hgD] at HD1
  have HN := Lib.hid (fun W' (h : Below w.heap.size w W') => hn.below h hn.lt)
  have HMAY := Lib.hid (fun W' (h : Below w.heap.size w W') => hmay W' (HN.out W' h))
  have HLAY := Lib.hid (fun W' (h : Below w.heap.size w W') => hlay W' (HN.out W' h))
  have HVAL := Lib.hid (fun W' (h : Below w.heap.size w W') => vvalid_one vw100 (HN.out W' h) (hX.below h))
  rw [decide_eq_true (rfl : (100 : Int) = 100)] at HVAL
  have HSM := Lib.hid hs
  clear hn hmay hX hs hlay
  go_upto_region 1 with (fail)
  rw [← hw1, ← hgT]
  rw [← hgR]
  rw [← hgD]
  clear hw1 hgT hgR hgD
  have t0 := HT1.out.get 0 rfl
  have t1 := HT1.out.get 1 rfl
  have t2 := HT1.out.get 2 rfl
  have tl := HT1.out.lt
  have x0 := HX1.out.get 0 rfl
  have x1 := HX1.out.get 1 rfl
  have x2 := HX1.out.get 2 rfl
  have x3 := HX1.out.get 3 rfl
  have xl := HX1.out.lt
  go_upto_region 3 with (first | (go_at_call 35; refine (HMAY.out _ HB1.out).mono ?_; rintro e w2 ⟨rfl, hb⟩; have HT2 := Lib.hid (HT1.out.below hb HT1.out.lt); have HX2 := Lib.hid (HX1.out.below hb HX1.out.lt); have HU2 := Lib.hid (HU1.out.below hb HU1.out.lt); have HR2 := Lib.hid (HR1.out.below hb HR1.out.lt); have HD2 := Lib.hid (HD1.out.below hb HD1.out.lt); have HB2 := Lib.hid (HB1.out.trans (hb.mono HB1.out.size)); clear hb t0 t1 t2 tl x0 x1 x2 x3 xl; have t0 := HT2.out.get 0 rfl; have t1 := HT2.out.get 1 rfl; have t2 := HT2.out.get 2 rfl; have tl := HT2.out.lt; have x0 := HX2.out.get 0 rfl; have x1 := HX2.out.get 1 rfl; have x2 := HX2.out.get 2 rfl; have x3 := HX2.out.get 3 rfl; have xl := HX2.out.lt) | (go_at_call 10; refine (HVAL.out _ HB2.out).mono ?_; rintro e w3 ⟨rfl, hb⟩; have HT3 := Lib.hid (HT2.out.below hb HT2.out.lt); have HX3 := Lib.hid (HX2.out.below hb HX2.out.lt); have HU3 := Lib.hid (HU2.out.below hb HU2.out.lt); have HR3 := Lib.hid (HR2.out.below hb HR2.out.lt); have HD3 := Lib.hid (HD2.out.below hb HD2.out.lt); have HB3 := Lib.hid (HB2.out.trans (hb.mono HB2.out.size)); clear hb t0 t1 t2 tl x0 x1 x2 x3 xl))
  have u0 := HU3.out.get 0 rfl
  have u1 := HU3.out.get 1 rfl
  have u2 := HU3.out.get 2 rfl
  have ul := HU3.out.lt
  go_upto_region 4 with (go_at_call 56; refine (HLAY.out _ HB3.out).mono ?_; rintro e w4 ⟨⟨gC', gU', gH', gF', rfl, hTab⟩, hb⟩; have HT4 := Lib.hid (HT3.out.below hb HT3.out.lt); have HX4 := Lib.hid (HX3.out.below hb HX3.out.lt); have HU4 := Lib.hid (HU3.out.below hb HU3.out.lt); have HR4 := Lib.hid (HR3.out.below hb HR3.out.lt); have HD4 := Lib.hid (HD3.out.below hb HD3.out.lt); have HB4 := Lib.hid (HB3.out.trans (hb.mono HB3.out.size)); have HY4 := Lib.hid hTab; clear hb hTab u0 u1 u2 ul; have r0 := HR4.out.get 0 rfl; have r1 := HR4.out.get 1 rfl; have r2 := HR4.out.get 2 rfl; have r3 := HR4.out.get 3 rfl; have rl := HR4.out.lt; have rf := HR4.out.frozen)
  obtain ⟨w5, hw5⟩ : ∃ W, W = (((w4.setCell ⟨gR, 0, none⟩ (.slice (some ⟨gC', 0, none⟩) 1 1)).setCell ⟨gR, 1, none⟩ (.slice (some ⟨gU', 0, none⟩) 1 1)).setCell ⟨gR, 2, none⟩ (.slice (some ⟨gH', 0, none⟩) 1 1)).setCell ⟨gR, 3, none⟩ (.slice (some ⟨gF', 0, none⟩) 1 1) := ⟨_, rfl⟩
  have far4 : ∀ (g : Nat) (t : TypeId) (cs : Array Value), g ≠ gR → Blk w4 g t cs → Blk w5 g t cs := fun g t cs hg h => by rw [hw5]; exact (((h.far hg _).far hg _).far hg _).far hg _
  have HR5 : Hid (Blk w5 gR 32 #[.slice (some ⟨gC', 0, none⟩) 1 1, .slice (some ⟨gU', 0, none⟩) 1 1, .slice (some ⟨gH', 0, none⟩) 1 1, .slice (some ⟨gF', 0, none⟩) 1 1]) := Lib.hid (by rw [hw5]; simpa using (((HR4.out.set_ 0 (.slice (some ⟨gC', 0, none⟩) 1 1)).set_ 1 (.slice (some ⟨gU', 0, none⟩) 1 1)).set_ 2 (.slice (some ⟨gH', 0, none⟩) 1 1)).set_ 3 (.slice (some ⟨gF', 0, none⟩) 1 1))
  have HT5 := Lib.hid (far4 _ _ _ HGE.out.2.2.1 HT4.out)
  have HX5 := Lib.hid (far4 _ _ _ HGE.out.2.2.2.2.1 HX4.out)
  have HU5 := Lib.hid (far4 _ _ _ HGE.out.2.2.2.2.2.2.1 HU4.out)
  have HD5 := Lib.hid (far4 _ _ _ HGE.out.2.2.2.2.2.2.2.2.2 HD4.out)
  have HY5 : Hid (TabV gC' gU' gH' gF' v2 w5) := Lib.hid ⟨far4 _ _ _ (HY4.out.c.ne_ HR4.out (by decide)) HY4.out.c, far4 _ _ _ (HY4.out.u.ne_ HR4.out (by decide)) HY4.out.u, far4 _ _ _ (HY4.out.h.ne_ HR4.out (by decide)) HY4.out.h, far4 _ _ _ (HY4.out.f.ne_ HR4.out (by decide)) HY4.out.f⟩
  have HB5 : Hid (Below w.heap.size w w5) := Lib.hid (by rw [hw5]; exact (((HB4.out.setCell (p := ⟨gR, 0, none⟩) HGE.out.1 _).setCell (p := ⟨gR, 1, none⟩) HGE.out.1 _).setCell (p := ⟨gR, 2, none⟩) HGE.out.1 _).setCell (p := ⟨gR, 3, none⟩) HGE.out.1 _)
  rw [← hw5]
  clear hw5 far4 r0 r1 r2 r3 rl rf
  have t0 := HT5.out.get 0 rfl
  have t1 := HT5.out.get 1 rfl
  have t2 := HT5.out.get 2 rfl
  have tl := HT5.out.lt
  have x0 := HX5.out.get 0 rfl
  have x1 := HX5.out.get 1 rfl
  have x2 := HX5.out.get 2 rfl
  have x3 := HX5.out.get 3 rfl
  have xl := HX5.out.lt
  have u0 := HU5.out.get 0 rfl
  have u1 := HU5.out.get 1 rfl
  have u2 := HU5.out.get 2 rfl
  have ul := HU5.out.lt
  have r0 := HR5.out.get 0 rfl
  have r1 := HR5.out.get 1 rfl
  have r2 := HR5.out.get 2 rfl
  have r3 := HR5.out.get 3 rfl
  have rl := HR5.out.lt
  go_wp2_with fail
  refine (aanew_call (gN := gN) (v := 100) (v2 := v2) (w := w5)).mono ?_
  rintro e w6 ⟨rfl, hw6⟩
  obtain ⟨g4, hg4⟩ : ∃ g, g = w5.heap.size := ⟨_, rfl⟩
  have H4 : Hid (Blk w6 g4 25 #[.slice (some ⟨gN, 0, none⟩) 1 1, .slice none 0 0, .int .i64 100]) := Lib.hid (by rw [← hw6, hg4]; exact (((Blk.new _ _ _).alloc _).alloc _).alloc _)
  have H5 : Hid (Blk w6 (g4 + 1) 32 #[.slice (some ⟨gC, 0, none⟩) 1 1, .slice (some ⟨gU, 0, none⟩) 1 1, .slice (some ⟨gH, 0, none⟩) 1 1, .slice (some ⟨gF, 0, none⟩) 1 1]) := Lib.hid (by rw [← hw6, hg4]; exact ((Blk.at_ _ _ _ (by simp)).alloc _).alloc _)
  have H6 : Hid (Blk w6 (g4 + 1 + 1) 25 #[.slice (some ⟨gN, 0, none⟩) 1 1, .slice none 0 0, .int .i64 v2]) := Lib.hid (by rw [← hw6, hg4]; exact (Blk.at_ _ _ _ (by simp)).alloc _)
  have H7 : Hid (Blk w6 (g4 + 1 + 1 + 1) 32 #[.slice (some ⟨gC', 0, none⟩) 1 1, .slice (some ⟨gU', 0, none⟩) 1 1, .slice (some ⟨gH', 0, none⟩) 1 1, .slice (some ⟨gF', 0, none⟩) 1 1]) := Lib.hid (by rw [← hw6, hg4]; exact Blk.at_ _ _ _ (by simp))
  have HB56 : Hid (Below w5.heap.size w5 w6) := Lib.hid (by rw [← hw6]; exact ((((Below.refl _ _).alloc (Nat.le_refl _) _).alloc (by simp) _).alloc (by simp; omega) _).alloc (by simp; omega) _)
  have HB6 := Lib.hid (HB5.out.trans (HB56.out.mono HB5.out.size))
  have HR6 := Lib.hid (HR5.out.below HB56.out HR5.out.lt)
  have HD6 := Lib.hid (HD5.out.below HB56.out HD5.out.lt)
  have HY6 := Lib.hid (HY5.out.below HB56.out)
  rw [← hg4]
  clear hw6 hg4 t0 t1 t2 tl x0 x1 x2 x3 xl u0 u1 u2 ul r0 r1 r2 r3 rl HB56
  have HSQ := Lib.hid (aanew_seq 4 (by decide) b0 g4 (g4 + 1) (g4 + 1 + 1) (g4 + 1 + 1 + 1) w.heap.size w6 H4.out H5.out H6.out H7.out (HN.out _ HB6.out) (fun W h => HSM.out gC' gU' gH' gF' W (HB6.out.trans (h.mono HB6.out.size)) (HY6.out.below h)))
  have HI0 : Hid (DoneI gD gR gC' gU' gH' gF' v2 w [] w6) := Lib.hid ⟨⟨.inl ⟨rfl, HD6.out⟩, HY6.out, HR6.out⟩, HB6.out⟩
  have HLE := Lib.hid HB6.out.size
  clear H4 H5 H6 H7
  go_wp2_with fail
  refine (wpIn_wide (n := 5)).1 ?_
  refine wpIn_rangeFunc_ownF (F := Fence.wide) (n := 5) (w0 := w6) rfl (by decide) (gf := 111) (lb := #[.pointer (some ⟨g4 + 1 + 1, 0, none⟩), .pointer (some ⟨g4, 0, none⟩), .pointer (some ⟨g4 + 1, 0, none⟩), .pointer (some ⟨g4 + 1 + 1 + 1, 0, none⟩)]) rfl trivial
    (enters_of Tryz.func111 (by kernel_rfl) rfl) HSQ.out belowK_t (belowK_b HLE.out) (Below.refl _ _) (fun _ => rfl)
    (DoneI gD gR gC' gU' gH' gF' v2 w) (fun _ _ _ => False) (doneI_own gD gR _ HLE.out) (fun c s A B row hs _ _ => hs) HI0.out ?a1 ?assign ?body ?done ?stop
  case assign =>
    intro l x W K hK
    gi_wp2
    exact hK
  case body =>
    rintro l pre x W hI hlt
    obtain ⟨⟨hd, hT, hR⟩, hB⟩ := hI
    have hpre : pre = [] := by cases pre with | nil => rfl | cons a t => simp at hlt
    subst hpre
    rcases hd with ⟨-, hd⟩ | ⟨e, -⟩
    · have HD := Lib.hid hd
      have HTT := Lib.hid (And.intro hT hR)
      have HBW := Lib.hid hB
      have HO0 : Hid (W.ownsRow w.heap.size 3 1 (.slice none 0 0) 0 []) := Lib.hid ⟨rfl, .inl ⟨rfl, rfl⟩⟩
      have HZ := Lib.hid hB.size
      have d0 := hd.c1
      have dl := hd.lt
      have df := hd.frozen 0
      clear hd hT hR hB hlt
      gi_wp2_with (refine wpListIn_appV (m := 1) rfl _ _ rfl el_intV HO0.out HZ.out rfl [.int .i64 0] rfl (by simp) (by simp [Value.oneCell']) (by omega) (by omega) ?_; intro A' c' W9 hown hBB hg hob; have HD9 := Lib.hid (HD.out.grown hg (by simp [Value.ownBlock])); have HT9 : Hid (TabV gC' gU' gH' gF' v2 W9 ∧ Blk W9 gR 32 #[.slice (some ⟨gC', 0, none⟩) 1 1, .slice (some ⟨gU', 0, none⟩) 1 1, .slice (some ⟨gH', 0, none⟩) 1 1, .slice (some ⟨gF', 0, none⟩) 1 1]) := Lib.hid ⟨⟨HTT.out.1.c.grown hg (by simp [Value.ownBlock]), HTT.out.1.u.grown hg (by simp [Value.ownBlock]), HTT.out.1.h.grown hg (by simp [Value.ownBlock]), HTT.out.1.f.grown hg (by simp [Value.ownBlock])⟩, HTT.out.2.grown hg (by simp [Value.ownBlock])⟩; have HOW := Lib.hid hown; have HBL := Lib.hid (hBB w.heap.size w (Nat.le_refl _) HBW.out); have HBL2 := Lib.hid (hBB w.heap.size W (Nat.le_refl _) (Below.refl _ _)); have HKO := Lib.hid (KeepsOthers.of_grownBy hg (fun j o e => by simp [Value.ownBlock] at e)); clear hown hBB hg hob d0 dl df; have d0 := HD9.out.c1; have dl := HD9.out.lt; have df := HD9.out.frozen 0)
      obtain ⟨g, cur, rfl, hbg, hge, hcur⟩ := own_blkV HOW.out (by omega)
      have hgD : g ≠ gD := hbg.ne_ HD9.out (by decide)
      refine ⟨HKO.out.trans (KeepsOthers.setCell _ _ _), HBL2.out.setCell (p := ⟨gD, 0, none⟩) HGE.out.2.1 _, ⟨.inr ⟨rfl, g, c', cur, HD9.out.set_ 0 _, hbg.far hgD _, hcur _ rfl⟩, ⟨HT9.out.1.c.far (HT9.out.1.c.ne_ HD9.out (by decide)) _, HT9.out.1.u.far (HT9.out.1.u.ne_ HD9.out (by decide)) _, HT9.out.1.h.far (HT9.out.1.h.ne_ HD9.out (by decide)) _, HT9.out.1.f.far (HT9.out.1.f.ne_ HD9.out (by decide)) _⟩, HT9.out.2.far (HT9.out.2.ne_ HD9.out (by decide)) _⟩, HBL.out.setCell (p := ⟨gD, 0, none⟩) HGE.out.2.1 _⟩
    · exact absurd e (by simp)
  case done =>
    rintro D xs W hD hxs ⟨⟨hd, hT, hR⟩, hB⟩ hK
    have hx : ∃ A n c, Blk W gD 50 #[.slice A n c] ∧ doneV b0 W (.slice A n c) := by
      rcases hd with ⟨e, hb⟩ | ⟨e, g, c, cur, hb, hg, hc⟩
      · subst e
        cases b0
        · simp at hxs
        · exact ⟨_, _, _, hb, rfl⟩
      · subst e
        cases b0
        · exact ⟨_, _, _, hb, g, c, cur, rfl, hg, hc⟩
        · simp at hxs
    obtain ⟨Ax, nx, cx, hdx, hv⟩ := hx
    have HD := Lib.hid hdx
    have HV := Lib.hid hv
    have HTT := Lib.hid (And.intro hT hR)
    have HBW := Lib.hid hB
    have HK := Lib.hid (And.intro hK hD)
    have r0 := hR.get 0 rfl
    have r1 := hR.get 1 rfl
    have r2 := hR.get 2 rfl
    have r3 := hR.get 3 rfl
    have rl := hR.lt
    have rf := hR.frozen
    have d0 := hdx.get 0 rfl
    have dl := hdx.lt
    have df := hdx.frozen 0
    have hRD := HGE.out.2.2.2.2.2.2.2.2.1
    have hDR := HGE.out.2.2.2.2.2.2.2.2.2
    clear hd hT hR hB hK hdx hv hxs
    go_upto_region 9 with (fail)
    go_region
    obtain ⟨W9, hW9⟩ : ∃ X, X = World.drew (((((W.setCell ⟨gR, 0, none⟩ (.slice (some ⟨gC', 0, none⟩) 1 1)).setCell ⟨gR, 1, none⟩ (.slice (some ⟨gU', 0, none⟩) 1 1)).setCell ⟨gR, 2, none⟩ (.slice (some ⟨gH', 0, none⟩) 1 1)).setCell ⟨gR, 3, none⟩ (.slice (some ⟨gF', 0, none⟩) 1 1)).setCell ⟨gD, 0, none⟩ (.slice Ax nx cx)) := ⟨_, rfl⟩
    have far5 : ∀ (g : Nat) (t : TypeId) (cs : Array Value), g ≠ gR → g ≠ gD → Blk W g t cs → Blk W9 g t cs := fun g t cs h1 h2 h => by rw [hW9]; exact (((((h.far h1 _).far h1 _).far h1 _).far h1 _).far h2 _).drew
    have HR9 : Hid (Blk W9 gR 32 #[.slice (some ⟨gC', 0, none⟩) 1 1, .slice (some ⟨gU', 0, none⟩) 1 1, .slice (some ⟨gH', 0, none⟩) 1 1, .slice (some ⟨gF', 0, none⟩) 1 1]) := Lib.hid (by rw [hW9]; simpa using (((((HTT.out.2.set_ 0 (.slice (some ⟨gC', 0, none⟩) 1 1)).set_ 1 (.slice (some ⟨gU', 0, none⟩) 1 1)).set_ 2 (.slice (some ⟨gH', 0, none⟩) 1 1)).set_ 3 (.slice (some ⟨gF', 0, none⟩) 1 1)).far (p := ⟨gD, 0, none⟩) hRD (.slice Ax nx cx)).drew)
    have HD9 : Hid (Blk W9 gD 50 #[.slice Ax nx cx]) := Lib.hid (by rw [hW9]; simpa using (((((HD.out.far (p := ⟨gR, 0, none⟩) hDR (.slice (some ⟨gC', 0, none⟩) 1 1)).far (p := ⟨gR, 1, none⟩) hDR (.slice (some ⟨gU', 0, none⟩) 1 1)).far (p := ⟨gR, 2, none⟩) hDR (.slice (some ⟨gH', 0, none⟩) 1 1)).far (p := ⟨gR, 3, none⟩) hDR (.slice (some ⟨gF', 0, none⟩) 1 1)).set_ 0 (.slice Ax nx cx)).drew)
    have HT9 : Hid (TabV gC' gU' gH' gF' v2 W9) := Lib.hid ⟨far5 _ _ _ (HTT.out.1.c.ne_ HTT.out.2 (by decide)) (HTT.out.1.c.ne_ HD.out (by decide)) HTT.out.1.c, far5 _ _ _ (HTT.out.1.u.ne_ HTT.out.2 (by decide)) (HTT.out.1.u.ne_ HD.out (by decide)) HTT.out.1.u, far5 _ _ _ (HTT.out.1.h.ne_ HTT.out.2 (by decide)) (HTT.out.1.h.ne_ HD.out (by decide)) HTT.out.1.h, far5 _ _ _ (HTT.out.1.f.ne_ HTT.out.2 (by decide)) (HTT.out.1.f.ne_ HD.out (by decide)) HTT.out.1.f⟩
    have HV9 : Hid (doneV b0 W9 (.slice Ax nx cx)) := Lib.hid (by
      have h := HV.out
      cases b0
      · obtain ⟨g, c, cur, e, hg, hc⟩ := h
        exact ⟨g, c, cur, e, far5 _ _ _ (hg.ne_ HTT.out.2 (by decide)) (hg.ne_ HD.out (by decide)) hg, hc⟩
      · exact h)
    have HB9 : Hid (Below w.heap.size w W9) := Lib.hid (by rw [hW9]; exact (((((HBW.out.setCell (p := ⟨gR, 0, none⟩) HGE.out.1 _).setCell (p := ⟨gR, 1, none⟩) HGE.out.1 _).setCell (p := ⟨gR, 2, none⟩) HGE.out.1 _).setCell (p := ⟨gR, 3, none⟩) HGE.out.1 _).setCell (p := ⟨gD, 0, none⟩) HGE.out.2.1 _).drew)
    have HKO : Hid (KeepsOthers W W9) := Lib.hid (by rw [hW9]; exact (((((KeepsOthers.setCell _ _ _).trans (KeepsOthers.setCell _ _ _)).trans (KeepsOthers.setCell _ _ _)).trans (KeepsOthers.setCell _ _ _)).trans (KeepsOthers.setCell _ _ _)).trans (KeepsOthers.drew _))
    rw [← hW9]
    clear hW9 far5 r0 r1 r2 r3 rl rf d0 dl df HV HTT HBW HD hRD hDR
    go_wp2_with fail
    have hK' := HKO.out.same D _ HK.out.1 rfl
    refine ⟨by simp, .inl ⟨_, _, rfl, run_takeDeferred hK', ?_⟩⟩
    have hDw : w.heap.size ≤ D := by have := HLE.out; omega
    have PO : ∀ (g : Nat) (t : TypeId) (cs : Array Value), Blk W9 g t cs → Blk (W9.putObj D (.deferred none)) g t cs := fun g t cs h => blk_put h hK'
    refine ⟨_, res_alV Tryz.results32 _ _ gR gD _ _ _ _ _ _ _ rfl rfl rfl rfl (PO _ _ _ HR9.out) (PO _ _ _ HD9.out), ⟨gC', gU', gH', gF', _, rfl, ⟨PO _ _ _ HT9.out.c, PO _ _ _ HT9.out.u, PO _ _ _ HT9.out.h, PO _ _ _ HT9.out.f⟩, ?_⟩, HB9.out.trans (belowK_b (w := w) (Nat.le_refl _) _ D _ _ hDw hK' rfl rfl)⟩
    have h := HV9.out
    cases b0
    · obtain ⟨g, c, cur, e, hg, hc⟩ := h
      exact ⟨g, c, cur, e, PO _ _ _ hg, hc⟩
    · exact h
  case stop =>
    rintro D c pre W hD hp hf hK
    exact hf.elim
end
end Go.Proofs.YtjhfcpadnofdnaaGreat
