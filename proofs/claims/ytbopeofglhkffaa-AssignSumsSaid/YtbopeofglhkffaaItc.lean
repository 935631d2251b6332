/- Items in rows. -/
import Derived.Test.YtbopeofglhkffaaRin
import Derived.Test.YtbopeofglhkffaaWs
set_option linter.unusedSimpArgs false
set_option linter.unusedVariables false
namespace Go.Proofs.Ytbopeofglhkffaa
open Go.RowKit
attribute [local go_sem] block_of_add run_store_hi run_store_lo
structure ItB (x : It) : Prop where
  sides : -30000000000000 ≤ x.sides ∧ x.sides ≤ 30000000000000
  guess : 0 ≤ x.guess ∧ x.guess ≤ 10995116277760
structure RwI (N n : Nat) (s : Sty) (long : Int) (ks : List Nat) (go gp : Nat) (B : Nat → Nat) (M : Nat → It) (rows : List (List Nat)) (vs : List Value) (v : Value) (w wr : World) : Prop where
  st : Blk wr N 52 (styCells s).toArray
  lg : Blk wr (N + 1) 87 #[hiOf long, loOf long]
  od : Blk wr go 3 (natCells ks).toArray
  pt : Blk wr gp 82 (ptrC B (List.range n)).toArray
  its : Its n B M wr
  rows : RInv rows (go + 1) vs v wr
  b : Below N w wr
  go : N + 1 < go
  gp : gp < N
  B : ∀ k, k < n → B k < N
section
variable {N n : Nat} {s : Sty} {long : Int} {ks : List Nat} {go gp : Nat} {B : Nat → Nat} {M : Nat → It} {rows : List (List Nat)} {vs : List Value} {v : Value} {w wr w' : World}
theorem RwI.bel (h : RwI N n s long ks go gp B M rows vs v w wr) (hb : Below wr.heap.size wr w') : RwI N n s long ks go gp B M rows vs v w w' :=
  ⟨h.st.below hb h.st.lt, h.lg.below hb h.lg.lt, h.od.below hb h.od.lt, h.pt.below hb h.pt.lt, h.its.bel hb, h.rows.kept hb, h.b.trans (hb.mono (Nat.le_of_lt h.st.lt)), h.go, h.gp, h.B⟩
theorem RwI.drew (h : RwI N n s long ks go gp B M rows vs v w wr) : RwI N n s long ks go gp B M rows vs v w wr.drew := h.bel (Below.refl _ _).drew
theorem RwI.put (h : RwI N n s long ks go gp B M rows vs v w wr) (z : Int) : RwI N n s z ks go gp B M rows vs v w ((wr.setCell ⟨N + 1, 0, none⟩ (hiOf z)).setCell ⟨N + 1, 1, none⟩ (loOf z)) := by
  have g1 := h.go
  have g2 := h.gp
  refine ⟨(h.st.far (by show N ≠ N + 1; omega) _).far (by show N ≠ N + 1; omega) _, (h.lg.set_ 0 _).set_ 1 _, (h.od.far (by show go ≠ N + 1; omega) _).far (by show go ≠ N + 1; omega) _, (h.pt.far (by show gp ≠ N + 1; omega) _).far (by show gp ≠ N + 1; omega) _,
    ⟨fun k hk => ?_, h.its.inj⟩, (h.rows.low (a := ⟨N + 1, 0, none⟩) (by show N + 1 < go + 1; omega) _).low (a := ⟨N + 1, 1, none⟩) (by show N + 1 < go + 1; omega) _, (h.b.setCell (p := ⟨N + 1, 0, none⟩) (by show N ≤ N + 1; omega) _).setCell (p := ⟨N + 1, 1, none⟩) (by show N ≤ N + 1; omega) _, h.go, h.gp, h.B⟩
  have := h.B k hk
  exact ((h.its.b k hk).far (by show B k ≠ N + 1; omega) _).far (by show B k ≠ N + 1; omega) _
theorem RwI.grown (h : RwI N n s long ks go gp B M rows vs v w wr) {row : Option Nat} (hg : wr.grownBy w' row) (hr : ∀ g, row = some g → go < g) {rows' : List (List Nat)} {vs' : List Value} {v' : Value} (hn : RInv rows' (go + 1) vs' v' w') : RwI N n s long ks go gp B M rows' vs' v' w w' := by
  have g1 := h.go
  have g2 := h.gp
  have ne : ∀ k, k ≤ go → some k ≠ row := fun k hk e => by have := hr k e.symm; omega
  refine ⟨h.st.grown hg (ne _ (by omega)), h.lg.grown hg (ne _ (by omega)), h.od.grown hg (ne _ (by omega)), h.pt.grown hg (ne _ (by omega)), ⟨fun k hk => (h.its.b k hk).grown hg (ne _ (by have := h.B k hk; omega)), h.its.inj⟩, hn, h.b.grown hg (Nat.le_of_lt h.st.lt) (fun g e => by have := hr g e; omega), h.go, h.gp, h.B⟩
theorem RwI.cellset (h : RwI N n s long ks go gp B M rows vs v w wr) {g : Nat} (hg : go < g) (i : Nat) (u : Value) {rows' : List (List Nat)} {vs' : List Value} (hn : RInv rows' (go + 1) vs' v (wr.setCell ⟨g, i, none⟩ u)) : RwI N n s long ks go gp B M rows' vs' v w (wr.setCell ⟨g, i, none⟩ u) := by
  have g1 := h.go
  have g2 := h.gp
  refine ⟨h.st.far (by show N ≠ g; omega) _, h.lg.far (by show N + 1 ≠ g; omega) _, h.od.far (by show go ≠ g; omega) _, h.pt.far (by show gp ≠ g; omega) _, ⟨fun k hk => (h.its.b k hk).far (by have := h.B k hk; show B k ≠ g; omega) _, h.its.inj⟩, hn, h.b.setCell (p := ⟨g, i, none⟩) (by show N ≤ g; omega) _, h.go, h.gp, h.B⟩
theorem RwI.step (h : RwI N n s long ks go gp B M rows vs v w wr) {row : Option Nat} (hg : wr.grownBy w' row) (hr : ∀ g, row = some g → go < g) {g : Nat} (hgo : go < g) (i : Nat) (u : Value) {rows' : List (List Nat)} {vs' : List Value} {v' : Value} (hn : RInv rows' (go + 1) vs' v' (w'.setCell ⟨g, i, none⟩ u)) : RwI N n s long ks go gp B M rows' vs' v' w (w'.setCell ⟨g, i, none⟩ u) := by
  have g1 := h.go
  have g2 := h.gp
  have ne : ∀ k, k ≤ go → some k ≠ row := fun k hk e => by have := hr k e.symm; omega
  refine ⟨(h.st.grown hg (ne _ (by omega))).far (by show N ≠ g; omega) _, (h.lg.grown hg (ne _ (by omega))).far (by show N + 1 ≠ g; omega) _, (h.od.grown hg (ne _ (by omega))).far (by show go ≠ g; omega) _, (h.pt.grown hg (ne _ (by omega))).far (by show gp ≠ g; omega) _,
    ⟨fun k hk => ((h.its.b k hk).grown hg (ne _ (by have := h.B k hk; omega))).far (by have := h.B k hk; show B k ≠ g; omega) _, h.its.inj⟩, hn, (h.b.grown hg (Nat.le_of_lt h.st.lt) (fun g e => by have := hr g e; omega)).setCell (p := ⟨g, i, none⟩) (by show N ≤ g; omega) _, h.go, h.gp, h.B⟩
theorem RwI.far {w0 : World} (h : RwI N n s long ks go gp B M rows vs v w wr) (h0 : RwI N n s long ks go gp B M rows vs v w w0) {g : Nat} (hg : w0.heap.size ≤ g) (i : Nat) (u : Value) : RwI N n s long ks go gp B M rows vs v w (wr.setCell ⟨g, i, none⟩ u) :=
  h.cellset (by have := h0.od.lt; omega) i u (h.rows.far h0.rows hg i u)
end
/-! The rows as they grow. -/
structure RowsB (rows : List (List Nat)) (long : Int) (k : Nat) : Prop where
  n : rows.length ≤ k
  r : ∀ p, (rowAt rows p).length ≤ k
  l : -(50000000000000 * (k : Int)) ≤ long ∧ long ≤ 50000000000000 * k
theorem rowsB_step {rows : List (List Nat)} {long : Int} {k kk : Nat} {wrap : Bool} {c : Int} {f : Nat → Int} (h : RowsB rows long k) (ho : -50000000000000 ≤ f kk ∧ f kk ≤ 50000000000000) : RowsB (rowStep wrap c f (rows, long) kk).1 (rowStep wrap c f (rows, long) kk).2 (k + 1) := by
  have hb := h.l
  unfold rowStep
  split
  · refine ⟨by simp; exact h.n, fun p => ?_, by show -(50000000000000 * ((k + 1 : Nat) : Int)) ≤ f kk ∧ f kk ≤ 50000000000000 * ((k + 1 : Nat) : Int); omega⟩
    show (rowAt (rows ++ [[kk]]) p).length ≤ k + 1
    have hr := h.r p
    unfold rowAt at hr ⊢
    by_cases hp : p < rows.length
    · rw [List.getElem?_append_left hp]; omega
    · rw [List.getElem?_append_right (by omega)]
      cases hq : p - rows.length with
      | zero => simp
      | succ q => simp
  · rename_i hne
    have hne0 : rows ≠ [] := fun e => hne (.inl (by rw [e]; rfl))
    have hpos : 0 < rows.length := List.length_pos_iff.2 hne0
    refine ⟨by simp; have := h.n; omega, fun p => ?_, by show -(50000000000000 * ((k + 1 : Nat) : Int)) ≤ long + f kk ∧ long + f kk ≤ 50000000000000 * ((k + 1 : Nat) : Int); omega⟩
    show (rowAt (rows.dropLast ++ [(rows.getLast?.getD []) ++ [kk]]) p).length ≤ k + 1
    have hr := h.r
    by_cases hp : p < rows.length - 1
    · have := hr p
      unfold rowAt at this ⊢
      rw [List.getElem?_append_left (by simpa using hp), List.getElem?_dropLast, if_pos hp]; omega
    · have hl := hr (rows.length - 1)
      unfold rowAt at hl ⊢
      rw [List.getElem?_append_right (by simp; omega)]
      have e : rows[rows.length - 1]? = rows.getLast? := by rw [List.getLast?_eq_getElem?]
      rw [e] at hl
      cases hq : p - rows.dropLast.length with
      | zero => simp; omega
      | succ q => simp
theorem rows_new (rows : List (List Nat)) (k : Nat) : (rows ++ [[]]).set rows.length (rowAt (rows ++ [[]]) rows.length ++ [k]) = rows ++ [[k]] := by
  have : rowAt (rows ++ [[]]) rows.length = [] := by unfold rowAt; simp
  rw [this]; simp
theorem rows_old (rows : List (List Nat)) (k : Nat) (h : 0 < rows.length) : rows.set (rows.length - 1) (rowAt rows (rows.length - 1) ++ [k]) = rows.dropLast ++ [(rows.getLast?.getD []) ++ [k]] := by
  have hne : rows ≠ [] := List.length_pos_iff.1 h
  have e : rowAt rows (rows.length - 1) = rows.getLast?.getD [] := by unfold rowAt; rw [List.getLast?_eq_getElem?]
  rw [e]
  obtain ⟨d, x, rfl⟩ : ∃ d x, rows = d ++ [x] := ⟨rows.dropLast, rows.getLast hne, (List.dropLast_concat_getLast hne).symm⟩
  simp
def condR (rows : List (List Nat)) (wrap : Bool) (c L : Int) : Bool := decide (rows.length = 0) || (wrap && decide (c < L))
structure RowsAns (s : Sty) (c : Int) (l : List Sty) (M : Nat → It) (w w' : World) (e : Ending) : Prop where
  ex : ∃ v, e = .returned v ∧ RowsAt w' w.heap.size w'.heap.size v (rowsF s.wrap c (ownM M) (orderF (ordF l) l.length))
  b : Below w.heap.size w w'
theorem clampF_bd {s : Sty} {c v : Int} (h1 : LnM s.maxw) (h2 : LnM s.minw) (hc : CB c) (hv : v ≤ 10995116277760) : 0 ≤ clampF s c v ∧ clampF s c v ≤ 10995116277760 := by
  have b1 := res_bd h1 hc
  have b2 := res_bd h2 hc
  unfold clampF
  dsimp only
  cases (resF s.maxw c).2 <;> cases (resF s.minw c).2 <;> simp only [Bool.false_eq_true, if_true, if_false] <;> omega
theorem baseF_bd {s : Sty} {c g : Int} (hs : StM s) (hc : CB c) (hg : 0 ≤ g ∧ g ≤ 1099511627776) : -10995116277760 ≤ baseF s c g ∧ baseF s c g ≤ 10995116277760 := by
  have b1 := res_bd hs.basis hc
  have b2 := res_bd hs.w hc
  unfold baseF
  split
  · exact b1
  · split
    · exact b2
    · omega
theorem frameF_bd {s : Sty} (hs : StyB s) : 0 ≤ frameF s ∧ frameF s ≤ 4398046511104 := by
  have := hs.b1; have := hs.b3; have := hs.p1; have := hs.p3
  unfold frameF; omega
theorem measF_itB {s : Sty} {c g : Int} (hs : StM s) (hc : CB c) (hg : 0 ≤ g ∧ g ≤ 1099511627776) : ItB (measF s c g) := by
  have b1 := res_bd hs.m1 hc
  have b3 := res_bd hs.m3 hc
  have bf := frameF_bd hs.b
  refine ⟨?_, clampF_bd hs.maxw hs.minw hc (baseF_bd hs hc hg).2⟩
  show -30000000000000 ≤ (resF s.m3 c).1 + (resF s.m1 c).1 + frameF s ∧ (resF s.m3 c).1 + (resF s.m1 c).1 + frameF s ≤ 30000000000000
  omega
theorem gAt_bd {got : List Cn} (h : ∀ x ∈ got, 0 ≤ x.greatest ∧ x.greatest ≤ 1099511627776) (k : Nat) : 0 ≤ (gAt got k).greatest ∧ (gAt got k).greatest ≤ 1099511627776 := by
  by_cases hk : k < got.length
  · have := h got[k] (List.getElem_mem hk)
    unfold gAt; rw [List.getElem?_eq_getElem hk]; exact this
  · unfold gAt; rw [List.getElem?_eq_none (by omega)]; simp
theorem itM_itB {l : List Sty} {c : Int} {got : List Cn} (hs : ∀ s ∈ l, StM s) (hc : CB c) (hg : ∀ x ∈ got, 0 ≤ x.greatest ∧ x.greatest ≤ 1099511627776) (k : Nat) (hk : k < l.length) : ItB (itM l c got k) := by
  unfold itM
  rw [stK_at hk]
  exact measF_itB (hs _ (List.getElem_mem hk)) hc (gAt_bd hg k)
theorem RowsAt.low {w : World} {lo lo' B : Nat} {v : Value} {rows : List (List Nat)} (h : RowsAt w lo B v rows) (hl : lo' ≤ lo) : RowsAt w lo' B v rows := by
  obtain ⟨A, c, e, hc, h0⟩ := h.ex
  refine ⟨A, c, e, hc, fun hp => ?_⟩
  obtain ⟨g, hA, h1, h2, h3⟩ := h0 hp
  refine ⟨g, hA, by omega, h2, fun p hp => ?_⟩
  obtain ⟨Ar, cr, h4, h5, h6, h7⟩ := h3 p hp
  exact ⟨Ar, cr, h4, h5, h6, fun ad e => Nat.le_trans hl (h7 ad e)⟩
set_option maxRecDepth 100000 in
set_option maxHeartbeats 2000000 in
theorem rowsOf_any (s : Sty) (c : Int) (l : List Sty) (B : Nat → Nat) (M : Nat → It) (A : Option Addr) (ck gp cp : Nat) (w : World) (hn : l.length ≤ 100000) (hr : Reads w w.heap.size 43 A l.length (stysCells l))
    (hp : Blk w gp 82 (ptrC B (List.range l.length)).toArray) (hi : Its l.length B M w) (hM : ∀ k, k < l.length → ItB (M k)) (hc : CB c) :
    Calls Try.prog 38 #[.agg (styCells s).toArray, .int .i64 c, .slice A l.length ck, .slice (some ⟨gp, 0, none⟩) l.length cp] w fun e w' => RowsAns s c l M w w' e := by
  have HO := Lib.hid (fun W (hb : Below w.heap.size w W) => order_any l A ck W (by omega) ((hr.below hb).more hb.size))
  have HPT := Lib.hid hp
  have HIT := Lib.hid hi
  have HMB := Lib.hid hM
  have hcb := hc.b
  clear hr hp hi hM hc
  obtain ⟨n, hne⟩ : ∃ n, n = l.length := ⟨_, rfl⟩
  rw [← hne] at hn HO HPT HIT HMB ⊢
  have HN := Lib.hid hne
  clear hne
  go_enter Try.func38, Try.ntmps38
  go_upto_region 3 with (fail)
  have HW := Lib.hid (show Below w.heap.size w ((w.alloc (.cells (styCells s).toArray 52)).alloc (.cells #[.int .i64 0, .int .u64 0] 87)) from bal (bal (Below.refl _ _) _) _)
  have HB1 := Lib.hid (show Blk ((w.alloc (.cells (styCells s).toArray 52)).alloc (.cells #[.int .i64 0, .int .u64 0] 87)) w.heap.size 52 (styCells s).toArray from (Blk.new _ _ _).alloc _)
  have HB2 := Lib.hid (show Blk ((w.alloc (.cells (styCells s).toArray 52)).alloc (.cells #[.int .i64 0, .int .u64 0] 87)) (w.heap.size + 1) 87 #[hiOf 0, loOf 0] from Blk.at_ _ _ _ (by simp))
  have HSZ := Lib.hid (show ((w.alloc (.cells (styCells s).toArray 52)).alloc (.cells #[.int .i64 0, .int .u64 0] 87)).heap.size = w.heap.size + 1 + 1 from by simp)
  obtain ⟨w1, hw1⟩ : ∃ w1, w1 = ((w.alloc (.cells (styCells s).toArray 52)).alloc (.cells #[.int .i64 0, .int .u64 0] 87)) := ⟨_, rfl⟩
  rw [← hw1] at HW HB1 HB2 HSZ ⊢
  clear hw1
  have HO1 := Lib.hid (HO.out w1 HW.out)
  obtain ⟨N, hN⟩ : ∃ N, N = w.heap.size := ⟨_, rfl⟩
  obtain ⟨go, hgo⟩ : ∃ go, go = w1.heap.size + 1 := ⟨_, rfl⟩
  rw [← hgo] at HO1
  have HGO := Lib.hid (show N + 1 < go by rw [hgo, HSZ.out, hN]; omega)
  rw [← hN] at HW HB1 HB2 ⊢
  obtain ⟨ks, hks⟩ : ∃ ks, ks = orderF (ordF l) n := ⟨_, rfl⟩
  have HKS := Lib.hid hks
  have hkl : ks.length = n := by rw [hks, orderF_len]
  have hkm : ∀ x ∈ ks, x < n := fun x hx => by rw [hks] at hx; exact (orderF_mem _ _ _).1 hx
  rw [← hks] at HO1
  have HKL := Lib.hid (And.intro hkl hkm)
  have HNN := Lib.hid hN
  clear hgo hN hks hkl hkm HO
  go_wp2_with (go_at_call 56; refine HO1.out.mono ?_; rintro e w2 ⟨rfl, hk2, hb2⟩; have HK2 := Lib.hid (And.intro hk2 hb2); clear hk2 hb2)
  go_loopw [9, 18] (fun v9 kv wr => ∃ k : Nat, k ≤ n ∧ kv = .int .i64 k ∧ Hid (∃ rows long vs, (rows, long) = (ks.take k).foldl (rowStep s.wrap c (ownM M)) ([], 0) ∧ RowsB rows long k ∧ RwI N n s long ks go gp B M rows vs v9 w wr)) (fun _ kv _ => n - (intOf kv).toNat)
  case atStart =>
    have hz := HSZ.out
    have hnn := HNN.out
    have hgo := HGO.out
    have e2 : Below w1.heap.size w1 w2 := HK2.out.2
    refine ⟨0, by omega, rfl, Lib.hid ⟨[], 0, [], rfl, ⟨Nat.le_refl _, fun p => by simp [rowAt], by omega⟩, HB1.out.below e2 HB1.out.lt, HB2.out.below e2 HB2.out.lt, HK2.out.1, ?_, ?_, RInv.start _ _, HW.out.trans (e2.mono (by omega)), hgo, ?_, fun k hk => ?_⟩⟩
    · exact (HPT.out.below HW.out (by have := HPT.out.lt; omega)).below e2 (by have := HPT.out.lt; omega)
    · exact ⟨fun k hk => ((HIT.out.b k hk).below HW.out (by have := (HIT.out.b k hk).lt; omega)).below e2 (by have := (HIT.out.b k hk).lt; omega), HIT.out.inj⟩
    · have := HPT.out.lt; omega
    · have := (HIT.out.b k hk).lt; omega
  case round =>
    obtain ⟨k, hk, rfl, H⟩ := hrel
    obtain ⟨rows, long, vs, hst, hrb, hrw⟩ := H.out
    obtain ⟨Av, cv, hv⟩ := own_form hrw.rows.v
    subst hv
    have HST := Lib.hid hst
    have HRB := Lib.hid hrb
    have HRW := Lib.hid hrw
    have hvl : vs.length ≤ k := by rw [hrw.rows.len]; exact hrb.n
    have hlb := hrb.l
    clear H hst hrb hrw
    by_cases hlt : k < n
    · have g0 : decide ((k : Int) < (n : Int)) = true := decide_eq_true (by omega)
      have g0' : decide (k < n) = true := decide_eq_true hlt
      have hki : (k : Int) < (n : Int) := by omega
      have hk0 : (0 : Int) ≤ (k : Int) := by omega
      have wk : IntKind.i64.wrap ((k : Int) + 1) = (k : Int) + 1 := IntWalk.i64_in _ ⟨by omega, by omega⟩
      have hkl : k < ks.length := by rw [HKL.out.1]; exact hlt
      obtain ⟨kk, hkk⟩ : ∃ kk, kk = ks[k] := ⟨_, rfl⟩
      have hkn : kk < n := by rw [hkk]; exact HKL.out.2 _ (List.getElem_mem hkl)
      have c1 : wr.cell? ⟨go, k, none⟩ = some (.int .i64 (kk : Int)) := HRW.out.od.get k (by simp [natCells, hkl, hkk])
      have HKK := Lib.hid hkk
      clear hkk
      have hib := HMB.out kk hkn
      have hs1 := hib.sides
      have hg1 := hib.guess
      clear hib
      go_upto_region 6 with (fail)
      clear c1
      have hkn2 : (kk : Int) < (n : Int) := by omega
      have hkn3 : (0 : Int) ≤ (kk : Int) := by omega
      obtain ⟨sd, hsd⟩ : ∃ sd, sd = (M kk).sides := ⟨_, rfl⟩
      obtain ⟨gu, hgu⟩ : ∃ gu, gu = (M kk).guess := ⟨_, rfl⟩
      rw [← hsd] at hs1
      rw [← hgu] at hg1
      have HSD := Lib.hid (And.intro hsd hgu)
      clear hsd hgu
      have wv : W128 (sd + gu) := ⟨by omega, by omega⟩
      have HT0 := Lib.hid HRW.out.drew
      refine wp_region_S (fun b d u W => RwI N n s long ks go gp B M rows vs (.slice Av vs.length cv) w W ∧ (d = true → ∃ gA, u = .pointer (some ⟨gA, 0, none⟩) ∧ wr.heap.size ≤ gA ∧ Blk W gA 87 (if b then #[hiOf (sd + gu), loOf (sd + gu)] else #[.int .i64 0, .int .u64 0])) ∧ wr.heap.size ≤ W.heap.size) 17 16 13 false false (by kernel_rfl) (by kernel_rfl) (by kernel_rfl) (⟨HT0.out, fun h => absurd h (by decide), Nat.le_refl _⟩) ?_
      refine wpAnyS_pre (j := 0) (by kernel_rfl) ?_
      iterate 14
        refine wpAnyS_nx (v := ?_) rfl (by kernel_rfl) (by kernel_rfl) (by kernel_rfl) (fun _ _ _ h => h) (by rfl) (gives_pureF (by rfl) (by kernel_rfl) ?_) ?_
        rotate_left
        · intro d' u' W' hS'
          have h1 := (hS'.1.its.b kk hkn).get 46 (it_sidesh _)
          have h2 := (hS'.1.its.b kk hkn).get 47 (it_sidesl _)
          have h3 := (hS'.1.its.b kk hkn).get 49 (it_guess _)
          rw [← HSD.out.1] at h1 h2
          rw [← HSD.out.2] at h3
          have h4 : W'.cell? ⟨gp, kk, none⟩ = some (.pointer (some ⟨B kk, 0, none⟩)) := hS'.1.pt.get kk (by simp [ptrC, hkn])
          go_simp
          rfl
        try simp only [Act.put, List.setIfInBounds_toArray, List.set_cons_zero, List.set_cons_succ, List.getElem_toArray, List.getElem_cons_zero, List.getElem_cons_succ]
      refine wpAnyS_take (i := 14) (v := _) rfl (by kernel_rfl) (by kernel_rfl) (by kernel_rfl) (fun _ _ _ h => h) (by rfl) (gives_callF (by rfl) (by kernel_rfl) _ _ ?_ (fun d' u' W' hS' => (of_b W' gu (by omega) (by omega)).mono fun e W2 ⟨he, hb⟩ => ⟨he, ⟨hS'.1.bel hb, fun h => by obtain ⟨gA, e1, e2, e3⟩ := hS'.2.1 h; exact ⟨gA, e1, e2, e3.below hb e3.lt⟩, Nat.le_trans hS'.2.2 hb.size⟩⟩)) ?_
      · intro W'
        first | rfl | kernel_rfl
      try simp only [Act.put, List.setIfInBounds_toArray, List.set_cons_zero, List.set_cons_succ, List.getElem_toArray, List.getElem_cons_zero, List.getElem_cons_succ]
      refine wpAnyS_take (i := 15) (v := _) rfl (by kernel_rfl) (by kernel_rfl) (by kernel_rfl) (fun _ _ _ h => h) (by rfl) (gives_callF (by rfl) (by kernel_rfl) _ _ ?_ (fun d' u' W' hS' => (plus_b W' sd gu wv).mono fun e W2 ⟨he, hb⟩ => ⟨he, ⟨hS'.1.bel hb, fun h => by obtain ⟨gA, e1, e2, e3⟩ := hS'.2.1 h; exact ⟨gA, e1, e2, e3.below hb e3.lt⟩, Nat.le_trans hS'.2.2 hb.size⟩⟩)) ?_
      · intro W'
        first | rfl | kernel_rfl
      try simp only [Act.put, List.setIfInBounds_toArray, List.set_cons_zero, List.set_cons_succ, List.getElem_toArray, List.getElem_cons_zero, List.getElem_cons_succ]
      refine wpAnyS_alloc (i := 16) (b := false) (.cells #[.int .i64 0, .int .u64 0] 87) rfl (by kernel_rfl) (by rfl) (by rfl) (by kernel_rfl) ?_ (fun u' W' hS' => ⟨hS'.1.bel (bal (Below.refl _ _) _), fun _ => ⟨_, rfl, hS'.2.2, Blk.new _ _ _⟩, by have := hS'.2.2; simp; omega⟩) (fun gA => ?_)
      · intro W'
        first | rfl | kernel_rfl
      try simp only [Act.put, List.setIfInBounds_toArray, List.set_cons_zero, List.set_cons_succ, List.getElem_toArray, List.getElem_cons_zero, List.getElem_cons_succ]
      refine wpAnyS_store (i := 17) (d := true) (fun W' => (W'.setCell ⟨gA, 0, none⟩ (hiOf (sd + gu))).setCell ⟨gA, 1, none⟩ (loOf (sd + gu))) rfl (by kernel_rfl) (by rfl) (by rfl) (by kernel_rfl) rfl ?_ (fun W' hS' => by
          obtain ⟨k1, k2, k3⟩ := hS'
          obtain ⟨gA', e1, e2, e3⟩ := k2 rfl
          have e4 : gA = gA' := by injection e1 with e1; injection e1 with e1; injection e1
          subst e4
          exact ⟨(k1.far HRW.out e2 0 _).far HRW.out e2 1 _, fun _ => ⟨gA, rfl, e2, (e3.set_ 0 _).set_ 1 _⟩, by simpa [World.setCell] using k3⟩) ?_
      · intro W' hS'
        obtain ⟨gA', e1, e2, e3⟩ := hS'.2.1 rfl
        have e4 : gA = gA' := by injection e1 with e1; injection e1 with e1; injection e1
        subst e4
        have q1 := e3.get 0 (v := .int .i64 0) rfl
        have q2 := e3.get 1 (v := .int .u64 0) rfl
        have q3 := e3.frozen 0
        have q4 := e3.frozen 1
        clear e3 e1
        go_simp
        try rfl
      try simp only [Act.put, List.setIfInBounds_toArray, List.set_cons_zero, List.set_cons_succ, List.getElem_toArray, List.getElem_cons_zero, List.getElem_cons_succ]
      refine wpAnyS_done (b := true) (d := true) (by kernel_rfl) (by kernel_rfl) (by kernel_rfl) rfl (fun wS hS => ?_) _
      obtain ⟨k1, k2, k3⟩ := hS
      obtain ⟨gA', e1, e2, e3⟩ := k2 rfl
      have e4 : gA = gA' := by
        simp at e1
        first | exact e1 | exact e1.1
      subst e4
      have hgn : N + 1 < gA := by have := HRW.out.od.lt; have := HRW.out.go; omega
      have HS6 := Lib.hid (And.intro k1 (And.intro (show Blk wS gA 87 #[hiOf (sd + gu), loOf (sd + gu)] from e3) e2))
      clear k1 k2 k3 e1 e2 e3
      obtain ⟨own, hown⟩ : ∃ own, own = sd + gu := ⟨_, rfl⟩
      have HOW : Hid (ownM M kk = own) := Lib.hid (by rw [hown, HSD.out.1, HSD.out.2]; rfl)
      have hob : -50000000000000 ≤ own ∧ own ≤ 50000000000000 := by omega
      rw [← hown] at HS6
      clear hown wv hs1 hg1 HT0
      have wW : W128 (long + own) := ⟨by omega, by omega⟩
      have q1 := HS6.out.1.lg.get 0 (v := hiOf long) rfl
      have q2 := HS6.out.1.lg.get 1 (v := loOf long) rfl
      have q3 := HS6.out.2.1.get 0 (v := hiOf own) rfl
      have q4 := HS6.out.2.1.get 1 (v := loOf own) rfl
      go_upto_region 8 with (go_at_call 57; refine (plus_b _ long own wW).mono ?_; rintro e w7 ⟨rfl, hb7⟩; have HS7 := Lib.hid (And.intro (HS6.out.1.bel hb7) (HS6.out.2.1.below hb7 HS6.out.2.1.lt)); clear hb7 q1 q2 q3 q4; have q1 := HS7.out.1.lg.get 0 (v := hiOf long) rfl; have q2 := HS7.out.1.lg.get 1 (v := loOf long) rfl; have q3 := HS7.out.1.lg.frozen 0; have q4 := HS7.out.1.lg.frozen 1)
      obtain ⟨L2, hL2⟩ : ∃ L2, L2 = long + own := ⟨_, rfl⟩
      rw [← hL2]
      have HS8 := Lib.hid (And.intro (HS7.out.1.put L2) (Blk.far (Blk.far HS7.out.2 (p := ⟨N + 1, 0, none⟩) (by show gA ≠ N + 1; omega) (hiOf L2)) (p := ⟨N + 1, 1, none⟩) (by show gA ≠ N + 1; omega) (loOf L2)))
      obtain ⟨w8, hw8⟩ : ∃ w8, w8 = (w7.setCell ⟨N + 1, 0, none⟩ (hiOf L2)).setCell ⟨N + 1, 1, none⟩ (loOf L2) := ⟨_, rfl⟩
      rw [← hw8] at HS8 ⊢
      have HL2 := Lib.hid hL2
      have hl2b : -6000000000000000000 ≤ L2 ∧ L2 ≤ 6000000000000000000 := by omega
      clear hL2 hw8 q1 q2 q3 q4
      go_cut [54] (fun sx wx => sx = .bool (condR rows s.wrap c L2) ∧ Hid (RwI N n s L2 ks go gp B M rows vs (.slice Av vs.length cv) w wx ∧ Blk wx gA 87 #[hiOf own, loOf own]))
      case first =>
        have hvr := HS8.out.1.rows.len
        have E0 := And.intro HS8.out.1.drew HS8.out.2.drew
        by_cases h0 : rows.length = 0
        · have e0 : ((vs.length : Int) == 0) = true := beq_iff_eq.2 (by omega)
          have HC : Hid (condR rows s.wrap c L2 = true) := Lib.hid (by unfold condR; simp [h0])
          clear h0 hvr
          refine wp_region_S (fun _ _ _ W => RwI N n s L2 ks go gp B M rows vs (.slice Av vs.length cv) w W ∧ Blk W gA 87 #[hiOf own, loOf own]) 1000 1000 100000 true true (by kernel_rfl) (by kernel_rfl) (by kernel_rfl) (E0) ?_
          refine wpAnyS_pre (j := 0) (by kernel_rfl) ?_
          iterate 4
            refine wpAnyS_nx (v := ?_) rfl (by kernel_rfl) (by kernel_rfl) (by kernel_rfl) (fun _ _ _ h => h) (by rfl) (gives_pure (by rfl) ?_) ?_
            rotate_left
            · intro b' d' u' W' hS'
              have h1 := hS'.1.lg.get 0 (v := hiOf L2) rfl
              have h2 := hS'.1.lg.get 1 (v := loOf L2) rfl
              go_simp
              rfl
            try simp only [Act.put, List.setIfInBounds_toArray, List.set_cons_zero, List.set_cons_succ, List.getElem_toArray, List.getElem_cons_zero, List.getElem_cons_succ]
          refine wpAnyS_take (i := 4) (v := undef) rfl (by kernel_rfl) (by kernel_rfl) (by kernel_rfl) (fun _ _ _ h => h) (by rfl) (gives_unwanted (by rfl)) ?_
          try simp only [Act.put, List.setIfInBounds_toArray, List.set_cons_zero, List.set_cons_succ, List.getElem_toArray, List.getElem_cons_zero, List.getElem_cons_succ]
          refine wpAnyS_take (i := 5) (v := undef) rfl (by kernel_rfl) (by kernel_rfl) (by kernel_rfl) (fun _ _ _ h => h) (by rfl) (gives_unwanted (by rfl)) ?_
          try simp only [Act.put, List.setIfInBounds_toArray, List.set_cons_zero, List.set_cons_succ, List.getElem_toArray, List.getElem_cons_zero, List.getElem_cons_succ]
          refine wpAnyS_take (i := 6) (v := undef) rfl (by kernel_rfl) (by kernel_rfl) (by kernel_rfl) (fun _ _ _ h => h) (by rfl) (gives_unwanted (by rfl)) ?_
          try simp only [Act.put, List.setIfInBounds_toArray, List.set_cons_zero, List.set_cons_succ, List.getElem_toArray, List.getElem_cons_zero, List.getElem_cons_succ]
          refine wpAnyS_take (i := 7) (v := undef) rfl (by kernel_rfl) (by kernel_rfl) (by kernel_rfl) (fun _ _ _ h => h) (by rfl) (gives_unwanted (by rfl)) ?_
          try simp only [Act.put, List.setIfInBounds_toArray, List.set_cons_zero, List.set_cons_succ, List.getElem_toArray, List.getElem_cons_zero, List.getElem_cons_succ]
          refine wpAnyS_take (i := 8) (v := undef) rfl (by kernel_rfl) (by kernel_rfl) (by kernel_rfl) (fun _ _ _ h => h) (by rfl) (gives_unwanted (by rfl)) ?_
          try simp only [Act.put, List.setIfInBounds_toArray, List.set_cons_zero, List.set_cons_succ, List.getElem_toArray, List.getElem_cons_zero, List.getElem_cons_succ]
          refine wpAnyS_take (i := 9) (v := undef) rfl (by kernel_rfl) (by kernel_rfl) (by kernel_rfl) (fun _ _ _ h => h) (by rfl) (gives_unwanted (by rfl)) ?_
          try simp only [Act.put, List.setIfInBounds_toArray, List.set_cons_zero, List.set_cons_succ, List.getElem_toArray, List.getElem_cons_zero, List.getElem_cons_succ]
          refine wpAnyS_take (i := 10) (v := undef) rfl (by kernel_rfl) (by kernel_rfl) (by kernel_rfl) (fun _ _ _ h => h) (by rfl) (gives_unwanted (by rfl)) ?_
          try simp only [Act.put, List.setIfInBounds_toArray, List.set_cons_zero, List.set_cons_succ, List.getElem_toArray, List.getElem_cons_zero, List.getElem_cons_succ]
          refine wpAnyS_take (i := 11) (v := undef) rfl (by kernel_rfl) (by kernel_rfl) (by kernel_rfl) (fun _ _ _ h => h) (by rfl) (gives_unwanted (by rfl)) ?_
          try simp only [Act.put, List.setIfInBounds_toArray, List.set_cons_zero, List.set_cons_succ, List.getElem_toArray, List.getElem_cons_zero, List.getElem_cons_succ]
          refine wpAnyS_take (i := 12) (v := undef) rfl (by kernel_rfl) (by kernel_rfl) (by kernel_rfl) (fun _ _ _ h => h) (by rfl) (gives_unwanted (by rfl)) ?_
          try simp only [Act.put, List.setIfInBounds_toArray, List.set_cons_zero, List.set_cons_succ, List.getElem_toArray, List.getElem_cons_zero, List.getElem_cons_succ]
          refine wpAnyS_take (i := 13) (v := ?_) rfl (by kernel_rfl) (by kernel_rfl) (by kernel_rfl) (fun _ _ _ h => h) (by rfl) (gives_pure (by rfl) ?_) ?_
          rotate_left
          · intro b' d' u' W' hS'
            have h1 := hS'.1.lg.get 0 (v := hiOf L2) rfl
            have h2 := hS'.1.lg.get 1 (v := loOf L2) rfl
            go_simp
            rfl
          try simp only [Act.put, List.setIfInBounds_toArray, List.set_cons_zero, List.set_cons_succ, List.getElem_toArray, List.getElem_cons_zero, List.getElem_cons_succ]
          refine wpAnyS_done (b := true) (d := true) (by kernel_rfl) (by kernel_rfl) (by kernel_rfl) rfl (fun wS hS => ?_) _
          go_wp2_with fail
          go_meet
          exact ⟨by first | rw [HC.out] | rw [HWR.out, HC.out], Lib.hid hS⟩
        · have e0 : ((vs.length : Int) == 0) = false := beq_eq_false_iff_ne.2 (by omega)
          cases hwr : s.wrap
          · have HWR := Lib.hid hwr
            have HC : Hid (condR rows false c L2 = false) := Lib.hid (by unfold condR; simp [h0])
            clear h0 hvr hwr
            refine wp_region_S (fun _ _ _ W => RwI N n s L2 ks go gp B M rows vs (.slice Av vs.length cv) w W ∧ Blk W gA 87 #[hiOf own, loOf own]) 1000 1000 100000 true true (by kernel_rfl) (by kernel_rfl) (by kernel_rfl) (E0) ?_
            refine wpAnyS_pre (j := 0) (by kernel_rfl) ?_
            iterate 7
              refine wpAnyS_nx (v := ?_) rfl (by kernel_rfl) (by kernel_rfl) (by kernel_rfl) (fun _ _ _ h => h) (by rfl) (gives_pure (by rfl) ?_) ?_
              rotate_left
              · intro b' d' u' W' hS'
                have h1 := hS'.1.lg.get 0 (v := hiOf L2) rfl
                have h2 := hS'.1.lg.get 1 (v := loOf L2) rfl
                have h3 := hS'.1.st.get 34 (sty_a34 s)
                rw [HWR.out] at h3
                go_simp
                rfl
              try simp only [Act.put, List.setIfInBounds_toArray, List.set_cons_zero, List.set_cons_succ, List.getElem_toArray, List.getElem_cons_zero, List.getElem_cons_succ]
            refine wpAnyS_take (i := 7) (v := undef) rfl (by kernel_rfl) (by kernel_rfl) (by kernel_rfl) (fun _ _ _ h => h) (by rfl) (gives_unwanted (by rfl)) ?_
            try simp only [Act.put, List.setIfInBounds_toArray, List.set_cons_zero, List.set_cons_succ, List.getElem_toArray, List.getElem_cons_zero, List.getElem_cons_succ]
            refine wpAnyS_take (i := 8) (v := undef) rfl (by kernel_rfl) (by kernel_rfl) (by kernel_rfl) (fun _ _ _ h => h) (by rfl) (gives_unwanted (by rfl)) ?_
            try simp only [Act.put, List.setIfInBounds_toArray, List.set_cons_zero, List.set_cons_succ, List.getElem_toArray, List.getElem_cons_zero, List.getElem_cons_succ]
            refine wpAnyS_take (i := 9) (v := undef) rfl (by kernel_rfl) (by kernel_rfl) (by kernel_rfl) (fun _ _ _ h => h) (by rfl) (gives_unwanted (by rfl)) ?_
            try simp only [Act.put, List.setIfInBounds_toArray, List.set_cons_zero, List.set_cons_succ, List.getElem_toArray, List.getElem_cons_zero, List.getElem_cons_succ]
            refine wpAnyS_take (i := 10) (v := undef) rfl (by kernel_rfl) (by kernel_rfl) (by kernel_rfl) (fun _ _ _ h => h) (by rfl) (gives_unwanted (by rfl)) ?_
            try simp only [Act.put, List.setIfInBounds_toArray, List.set_cons_zero, List.set_cons_succ, List.getElem_toArray, List.getElem_cons_zero, List.getElem_cons_succ]
            refine wpAnyS_take (i := 11) (v := undef) rfl (by kernel_rfl) (by kernel_rfl) (by kernel_rfl) (fun _ _ _ h => h) (by rfl) (gives_unwanted (by rfl)) ?_
            try simp only [Act.put, List.setIfInBounds_toArray, List.set_cons_zero, List.set_cons_succ, List.getElem_toArray, List.getElem_cons_zero, List.getElem_cons_succ]
            refine wpAnyS_pre (j := 12) (by kernel_rfl) ?_
            iterate 2
              refine wpAnyS_nx (v := ?_) rfl (by kernel_rfl) (by kernel_rfl) (by kernel_rfl) (fun _ _ _ h => h) (by rfl) (gives_pure (by rfl) ?_) ?_
              rotate_left
              · intro b' d' u' W' hS'
                have h1 := hS'.1.lg.get 0 (v := hiOf L2) rfl
                have h2 := hS'.1.lg.get 1 (v := loOf L2) rfl
                have h3 := hS'.1.st.get 34 (sty_a34 s)
                rw [HWR.out] at h3
                go_simp
                rfl
              try simp only [Act.put, List.setIfInBounds_toArray, List.set_cons_zero, List.set_cons_succ, List.getElem_toArray, List.getElem_cons_zero, List.getElem_cons_succ]
            refine wpAnyS_done (b := true) (d := true) (by kernel_rfl) (by kernel_rfl) (by kernel_rfl) rfl (fun wS hS => ?_) _
            go_wp2_with fail
            go_meet
            exact ⟨by first | rw [HC.out] | rw [HWR.out, HC.out], Lib.hid hS⟩
          · have HWR := Lib.hid hwr
            cases hcl : decide (c < L2)
            · have e5 : decide (0 < cmpI L2 c) = false := by have := of_decide_eq_false hcl; unfold cmpI; split <;> (try split) <;> simp <;> omega
              have HC : Hid (condR rows true c L2 = false) := Lib.hid (by unfold condR; simp [h0, hcl])
              clear h0 hvr hwr hcl
              refine wp_region_S (fun _ _ _ W => RwI N n s L2 ks go gp B M rows vs (.slice Av vs.length cv) w W ∧ Blk W gA 87 #[hiOf own, loOf own]) 1000 1000 100000 true true (by kernel_rfl) (by kernel_rfl) (by kernel_rfl) (E0) ?_
              refine wpAnyS_pre (j := 0) (by kernel_rfl) ?_
              iterate 9
                refine wpAnyS_nx (v := ?_) rfl (by kernel_rfl) (by kernel_rfl) (by kernel_rfl) (fun _ _ _ h => h) (by rfl) (gives_pure (by rfl) ?_) ?_
                rotate_left
                · intro b' d' u' W' hS'
                  have h1 := hS'.1.lg.get 0 (v := hiOf L2) rfl
                  have h2 := hS'.1.lg.get 1 (v := loOf L2) rfl
                  have h3 := hS'.1.st.get 34 (sty_a34 s)
                  rw [HWR.out] at h3
                  go_simp
                  rfl
                try simp only [Act.put, List.setIfInBounds_toArray, List.set_cons_zero, List.set_cons_succ, List.getElem_toArray, List.getElem_cons_zero, List.getElem_cons_succ]
              refine wpAnyS_take (i := 9) (v := _) rfl (by kernel_rfl) (by kernel_rfl) (by kernel_rfl) (fun _ _ _ h => h) (by rfl) (gives_call (by rfl) _ _ ?_ (fun b' d' u' W' hS' => (of_b W' c (by omega) (by omega)).mono fun e W2 ⟨he, hb⟩ => ⟨he, ⟨hS'.1.bel hb, hS'.2.below hb hS'.2.lt⟩⟩)) ?_
              · intro W'
                first | rfl | kernel_rfl
              try simp only [Act.put, List.setIfInBounds_toArray, List.set_cons_zero, List.set_cons_succ, List.getElem_toArray, List.getElem_cons_zero, List.getElem_cons_succ]
              refine wpAnyS_take (i := 10) (v := _) rfl (by kernel_rfl) (by kernel_rfl) (by kernel_rfl) (fun _ _ _ h => h) (by rfl) (gives_call (by rfl) _ _ ?_ (fun b' d' u' W' hS' => (against_b W' L2 c).mono fun e W2 ⟨he, hb⟩ => ⟨he, ⟨hS'.1.bel hb, hS'.2.below hb hS'.2.lt⟩⟩)) ?_
              · intro W'
                first | rfl | kernel_rfl
              try simp only [Act.put, List.setIfInBounds_toArray, List.set_cons_zero, List.set_cons_succ, List.getElem_toArray, List.getElem_cons_zero, List.getElem_cons_succ]
              refine wpAnyS_pre (j := 11) (by kernel_rfl) ?_
              iterate 3
                refine wpAnyS_nx (v := ?_) rfl (by kernel_rfl) (by kernel_rfl) (by kernel_rfl) (fun _ _ _ h => h) (by rfl) (gives_pure (by rfl) ?_) ?_
                rotate_left
                · intro b' d' u' W' hS'
                  have h1 := hS'.1.lg.get 0 (v := hiOf L2) rfl
                  have h2 := hS'.1.lg.get 1 (v := loOf L2) rfl
                  have h3 := hS'.1.st.get 34 (sty_a34 s)
                  rw [HWR.out] at h3
                  go_simp
                  rfl
                try simp only [Act.put, List.setIfInBounds_toArray, List.set_cons_zero, List.set_cons_succ, List.getElem_toArray, List.getElem_cons_zero, List.getElem_cons_succ]
              refine wpAnyS_done (b := true) (d := true) (by kernel_rfl) (by kernel_rfl) (by kernel_rfl) rfl (fun wS hS => ?_) _
              go_wp2_with fail
              go_meet
              exact ⟨by first | rw [HC.out] | rw [HWR.out, HC.out], Lib.hid hS⟩
            · have e5 : decide (0 < cmpI L2 c) = true := by have := of_decide_eq_true hcl; unfold cmpI; rw [if_neg (by omega), if_pos (by omega)]; decide
              have HC : Hid (condR rows true c L2 = true) := Lib.hid (by unfold condR; simp [h0, hcl])
              clear h0 hvr hwr hcl
              refine wp_region_S (fun _ _ _ W => RwI N n s L2 ks go gp B M rows vs (.slice Av vs.length cv) w W ∧ Blk W gA 87 #[hiOf own, loOf own]) 1000 1000 100000 true true (by kernel_rfl) (by kernel_rfl) (by kernel_rfl) (E0) ?_
              refine wpAnyS_pre (j := 0) (by kernel_rfl) ?_
              iterate 9
                refine wpAnyS_nx (v := ?_) rfl (by kernel_rfl) (by kernel_rfl) (by kernel_rfl) (fun _ _ _ h => h) (by rfl) (gives_pure (by rfl) ?_) ?_
                rotate_left
                · intro b' d' u' W' hS'
                  have h1 := hS'.1.lg.get 0 (v := hiOf L2) rfl
                  have h2 := hS'.1.lg.get 1 (v := loOf L2) rfl
                  have h3 := hS'.1.st.get 34 (sty_a34 s)
                  rw [HWR.out] at h3
                  go_simp
                  rfl
                try simp only [Act.put, List.setIfInBounds_toArray, List.set_cons_zero, List.set_cons_succ, List.getElem_toArray, List.getElem_cons_zero, List.getElem_cons_succ]
              refine wpAnyS_take (i := 9) (v := _) rfl (by kernel_rfl) (by kernel_rfl) (by kernel_rfl) (fun _ _ _ h => h) (by rfl) (gives_call (by rfl) _ _ ?_ (fun b' d' u' W' hS' => (of_b W' c (by omega) (by omega)).mono fun e W2 ⟨he, hb⟩ => ⟨he, ⟨hS'.1.bel hb, hS'.2.below hb hS'.2.lt⟩⟩)) ?_
              · intro W'
                first | rfl | kernel_rfl
              try simp only [Act.put, List.setIfInBounds_toArray, List.set_cons_zero, List.set_cons_succ, List.getElem_toArray, List.getElem_cons_zero, List.getElem_cons_succ]
              refine wpAnyS_take (i := 10) (v := _) rfl (by kernel_rfl) (by kernel_rfl) (by kernel_rfl) (fun _ _ _ h => h) (by rfl) (gives_call (by rfl) _ _ ?_ (fun b' d' u' W' hS' => (against_b W' L2 c).mono fun e W2 ⟨he, hb⟩ => ⟨he, ⟨hS'.1.bel hb, hS'.2.below hb hS'.2.lt⟩⟩)) ?_
              · intro W'
                first | rfl | kernel_rfl
              try simp only [Act.put, List.setIfInBounds_toArray, List.set_cons_zero, List.set_cons_succ, List.getElem_toArray, List.getElem_cons_zero, List.getElem_cons_succ]
              refine wpAnyS_pre (j := 11) (by kernel_rfl) ?_
              iterate 3
                refine wpAnyS_nx (v := ?_) rfl (by kernel_rfl) (by kernel_rfl) (by kernel_rfl) (fun _ _ _ h => h) (by rfl) (gives_pure (by rfl) ?_) ?_
                rotate_left
                · intro b' d' u' W' hS'
                  have h1 := hS'.1.lg.get 0 (v := hiOf L2) rfl
                  have h2 := hS'.1.lg.get 1 (v := loOf L2) rfl
                  have h3 := hS'.1.st.get 34 (sty_a34 s)
                  rw [HWR.out] at h3
                  go_simp
                  rfl
                try simp only [Act.put, List.setIfInBounds_toArray, List.set_cons_zero, List.set_cons_succ, List.getElem_toArray, List.getElem_cons_zero, List.getElem_cons_succ]
              refine wpAnyS_done (b := true) (d := true) (by kernel_rfl) (by kernel_rfl) (by kernel_rfl) rfl (fun wS hS => ?_) _
              go_wp2_with fail
              go_meet
              exact ⟨by first | rw [HC.out] | rw [HWR.out, HC.out], Lib.hid hS⟩
      case rest =>
        obtain ⟨rfl, HS9⟩ := hcut
        obtain ⟨cb, hcb⟩ : ∃ cb, cb = condR rows s.wrap c L2 := ⟨_, rfl⟩
        rw [← hcb]
        have HCB := Lib.hid hcb
        clear hcb HS6 HS7 HS8 wW
        go_upto_if 54 with (fail)
        go_cut [9] (fun s9 wx => ∃ rows1 long1 vs1, Hid ((rows1 = if cb then rows ++ [[]] else rows) ∧ long1 = if cb then own else L2) ∧ Hid (RwI N n s long1 ks go gp B M rows1 vs1 s9 w wx))
        case first =>
          cases cb
          · go_wp2_with fail
            go_meet
            exact ⟨rows, L2, vs, Lib.hid ⟨rfl, rfl⟩, Lib.hid HS9.out.1⟩
          · have h9 : vs.length + 1 ≤ 4294967296 := by omega
            have hbs : go + 1 ≤ wc.heap.size := by have := HS9.out.1.od.lt; omega
            have HBS := Lib.hid hbs
            clear hbs
            go_upto_region 10 with (at_builtin; refine wpList_app (m := 1) rfl _ _ rfl el_row HS9.out.1.rows.v HBS.out rfl [.slice none 0 0] rfl rfl (by simp [Value.oneCell']) h9 (by omega) ?_; intro A1 c1 w10 hown10 _ hg10 _; have HR10 := Lib.hid (HS9.out.1.grown hg10 (fun g e => (HS9.out.1.rows.v.lt g e).1) (HS9.out.1.rows.push hown10 hg10)); have HA10 := Lib.hid (HS9.out.2.grown hg10 (fun e => by rcases own_blk_ne HS9.out.1.rows.v HS9.out.2 (by decide) with h; exact h e.symm)); clear hown10 hg10)
            have q1 := HR10.out.lg.get 0 (v := hiOf L2) rfl
            have q2 := HR10.out.lg.get 1 (v := loOf L2) rfl
            have q3 := HA10.out.get 0 (v := hiOf own) rfl
            have q4 := HA10.out.get 1 (v := loOf own) rfl
            have q5 := HR10.out.lg.frozen 0
            have q6 := HR10.out.lg.frozen 1
            have HR11 := Lib.hid (HR10.out.put own)
            go_wp2_with fail
            go_meet
            exact ⟨rows ++ [[]], own, _, Lib.hid ⟨rfl, rfl⟩, Lib.hid HR11.out⟩
        case rest =>
          obtain ⟨rows1, long1, vs1, HX, HR⟩ := hcut
          have hpos : 0 < vs1.length := by
            rw [HR.out.rows.len, HX.out.1]
            cases cb
            · have := HCB.out
              unfold condR at this
              have h0 : decide (rows.length = 0) = false := by
                cases h : decide (rows.length = 0)
                · rfl
                · rw [h] at this; simp at this
              have := of_decide_eq_false h0
              simp only [Bool.false_eq_true, if_false]
              omega
            · simp
          obtain ⟨q, hq⟩ : ∃ q, vs1.length = q + 1 := ⟨vs1.length - 1, by omega⟩
          obtain ⟨gv, cv1, hv, hgv, _⟩ := HR.out.rows.v.form hpos
          subst hv
          have hqv : q < vs1.length := by omega
          obtain ⟨Ar, cr, hvr⟩ := own_form (HR.out.rows.own q hqv)
          have hro := HR.out.rows.own q hqv
          have hcq := HR.out.rows.v.cellAt q (by omega)
          rw [List.getElem?_eq_getElem hqv, hvr] at hcq
          have hrl : (rowAt rows1 q).length ≤ k := by
            rw [HX.out.1]
            have hr := HRB.out.r q
            cases cb
            · simp only [Bool.false_eq_true, if_false]; exact hr
            · simp only [if_true]
              unfold rowAt at hr ⊢
              by_cases hp : q < rows.length
              · rw [List.getElem?_append_left hp]; exact hr
              · rw [List.getElem?_append_right (by omega)]
                cases hq : q - rows.length with
                | zero => simp
                | succ q => simp
          have h9 : (rowAt rows1 q).length + 1 ≤ 4294967296 := by omega
          have hbs : go + 1 ≤ wc.heap.size := by have := HR.out.od.lt; omega
          rw [hq]
          have hql : q < 4294967296 := by have := HR.out.rows.len; have := HRB.out.n; have := HX.out.1; cases cb <;> simp_all <;> omega
          have wq : IntKind.i64.wrap ((q : Int) + 1 - 1) = (q : Int) := by rw [IntWalk.i64_in _ ⟨by omega, by omega⟩]; omega
          have hq0 : (0 : Int) ≤ (q : Int) := by omega
          have hq1 : (q : Int) < (q : Int) + 1 := by omega
          have hvk : ∀ {w13 : World}, wc.grownBy w13 vs1[q].ownBlock → w13.cell? ⟨gv, q, none⟩ = some (.slice Ar (rowAt rows1 q).length cr) ∧ w13.frozen? ⟨gv, q, none⟩ = false := fun {w13} hg => by
            have h13 := HR.out.rows.v.kept hg (own_ne HR.out.rows.v (HR.out.rows.own q hqv) (by decide))
            refine ⟨?_, h13.frozenAt q⟩
            rw [h13.cellAt q (by omega), List.getElem?_eq_getElem hqv, hvr]
          have hst : ∀ {w13 : World} {nv : Value}, wc.grownBy w13 vs1[q].ownBlock → w13.ownsRow (go + 1) 3 1 nv ((rowAt rows1 q).length + 1) (nCells (rowAt rows1 q) ++ [.int .i64 (kk : Int)]) → (nv.ownBlock = vs1[q].ownBlock ∨ wc.heap.size ≤ (nv.ownBlock).getD wc.heap.size) →
              RwI N n s long1 ks go gp B M (rows1.set q (rowAt rows1 q ++ [kk])) (vs1.set q nv) (.slice (some ⟨gv, 0, none⟩) vs1.length cv1) w (w13.setCell ⟨gv, q, none⟩ nv) := fun {w13 nv} hg ho hb =>
            HR.out.step hg (fun g e => by have := ((HR.out.rows.own q hqv).lt g e).1; omega) (by omega) q nv (HR.out.rows.add hqv ho hg hb rfl)
          have hrs : (rows1.set q (rowAt rows1 q ++ [kk]), long1) = rowStep s.wrap c (ownM M) (rows, long) kk := by
            have hl := HR.out.rows.len
            have hcb := HCB.out
            rw [HX.out.1] at hl ⊢
            rw [HX.out.2]
            unfold rowStep
            have e2 : (long + ownM M kk) = L2 := by rw [HOW.out, HL2.out]
            simp only [e2]
            cases cb
            · have hc2 : ¬ (rows.length = 0 ∨ s.wrap = true ∧ c < L2) := fun h => by
                unfold condR at hcb
                rcases h with h | ⟨h1, h2⟩
                · rw [decide_eq_true h] at hcb; simp at hcb
                · rw [h1, decide_eq_true h2] at hcb; simp at hcb
              rw [if_neg hc2]
              simp only [Bool.false_eq_true, if_false] at hl ⊢
              have hp : 0 < rows.length := by omega
              have hqe : q = rows.length - 1 := by omega
              rw [hqe, rows_old rows kk hp]
            · have hc2 : rows.length = 0 ∨ s.wrap = true ∧ c < L2 := by
                unfold condR at hcb
                by_cases h : rows.length = 0
                · exact .inl h
                · rw [decide_eq_false h] at hcb
                  have := hcb.symm
                  simp only [Bool.false_or, Bool.and_eq_true, decide_eq_true_eq] at this
                  exact .inr this
              rw [if_pos hc2]
              simp only [if_true] at hl ⊢
              have hqe : q = rows.length := by simp at hl; omega
              rw [hqe, rows_new, HOW.out]
          rw [hvr] at hvk hst hro
          have HRO := Lib.hid hro
          have HBS := Lib.hid hbs
          have HVK := Lib.hid (fun (w13 : World) => @hvk w13)
          have HSTP := Lib.hid (fun (w13 : World) (nv : Value) => @hst w13 nv)
          have HRS := Lib.hid hrs
          have HQ := Lib.hid hq
          rw [hq] at HSTP
          clear hro hbs hvr hq hgv hvk hst hrs hob hlb hl2b hgn
          go_upto_region 13 with (at_builtin; refine wpList_app (m := 1) rfl _ _ rfl el_int2 HRO.out HBS.out rfl [.int .i64 (kk : Int)] rfl rfl (by simp [Value.oneCell']) h9 (by omega) ?_; intro A3 c3 w13 hown13 _ hg13 hob13; have HF := Lib.hid (HSTP.out w13 _ hg13 hown13 hob13); have p1 := (HVK.out w13 hg13).1; have p2 := (HVK.out w13 hg13).2; clear hown13 hg13 hob13)
          have HTK : Hid ((rows1.set q (rowAt rows1 q ++ [kk]), long1) = (ks.take (k + 1)).foldl (rowStep s.wrap c (ownM M)) ([], 0) ∧ RowsB (rows1.set q (rowAt rows1 q ++ [kk])) long1 (k + 1)) := Lib.hid (by
            have e : ks.take (k + 1) = ks.take k ++ [kk] := by rw [List.take_succ_eq_append_getElem hkl, ← HKK.out]
            refine ⟨by rw [e, List.foldl_append, ← HST.out]; exact HRS.out, ?_⟩
            have hb := rowsB_step (wrap := s.wrap) (c := c) (f := ownM M) (kk := kk) HRB.out (by
              have := (HMB.out kk hkn).sides; have := (HMB.out kk hkn).guess; unfold ownM; omega)
            rw [← HRS.out] at hb
            exact hb)
          clear p1 p2 hcq
          go_wp2_with fail
          go_roundw
          case rel => exact ⟨k + 1, by omega, by go_num, Lib.hid ⟨_, _, _, HTK.out.1, HTK.out.2, HF.out⟩⟩
          case measure => simp [intOf] <;> omega
    · have g0 : decide ((k : Int) < (n : Int)) = false := decide_eq_false (by omega)
      have g0' : decide (k < n) = false := decide_eq_false hlt
      have hkn : k = n := by omega
      have HF : Hid (rowsF s.wrap c (ownM M) (orderF (ordF l) n) = rows) := Lib.hid (by
        have h := HST.out
        rw [hkn, List.take_of_length_le (by rw [HKL.out.1]; exact Nat.le_refl _), HKS.out] at h
        unfold rowsF; rw [← h])
      clear hkn hlt
      go_wp2_with fail
      go_ret
      rw [HN.out] at HF
      refine ⟨⟨_, rfl, ?_⟩, by rw [← HNN.out]; exact HRW.out.b⟩
      rw [HF.out, ← HNN.out]
      exact HRW.out.rows.fin (by have := HRW.out.go; omega)
end Go.Proofs.Ytbopeofglhkffaa
