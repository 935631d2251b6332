/- The document's rows of items: jambref19.Rows. -/
import Derived.Test.YtbopeofglhkffaaStc
import Derived.Test.YtbopeofglhkffaaRin
import Derived.Test.YtbopeofglhkffaaFia
set_option linter.unusedSimpArgs false
set_option linter.unusedVariables false
namespace Go.Proofs.Ytbopeofglhkffaa
open Go.RowKit
attribute [local go_sem] block_of_add
theorem ins_at (o : Nat → Int) (i : Nat) : ∀ (p : List Nat) (k : Nat), k ≤ p.length → (∀ q (h : q < p.length), q < k → o p[q] ≤ o i) → (∀ q (h : q < p.length), k ≤ q → o i < o p[q]) → ins o i p = p.take k ++ i :: p.drop k
  | [], k, _, _, _ => by simp [ins]
  | x :: t, 0, _, _, hi => by
    have := hi 0 (by simp) (Nat.le_refl _)
    unfold ins; rw [if_pos (by simpa using this)]; rfl
  | x :: t, k + 1, hk, lo, hi => by
    have h0 := lo 0 (by simp) (by omega)
    unfold ins
    rw [if_neg (by simp at h0; omega), ins_at o i t k (by simpa using hk) (fun q h hq => by have := lo (q + 1) (by rw [List.length_cons]; omega) (by omega); rwa [List.getElem_cons_succ] at this) (fun q h hq => by have := hi (q + 1) (by rw [List.length_cons]; omega) (by omega); rwa [List.getElem_cons_succ] at this)]
    rfl
theorem own_addr {w : World} {base : Nat} {e : TypeId} {n c : Nat} {A : Option Addr} {xs : List Value} (h : w.ownsRow base e 1 (.slice A n c) n xs) (h0 : 0 < n) : ∃ g, A = some ⟨g, 0, none⟩ := by
  obtain ⟨g, c', e2, _⟩ := h.form h0
  injection e2 with e2
  exact ⟨g, e2⟩
theorem own_at {w : World} {base g : Nat} {e : TypeId} {n c j : Nat} {xs : List Value} {u : Value} (h : w.ownsRow base e 1 (.slice (some ⟨g, 0, none⟩) n c) n xs) (hx : xs[j]? = some u) : w.cell? ⟨g, j, none⟩ = some u := by
  have h3 := (@World.ownsRow.cells _ _ _ _ _ _ _ h) (g := g) rfl j u hx
  have ha : (⟨g, 0, none⟩ : Addr).add j = ⟨g, j, none⟩ := by unfold Addr.add; split <;> simp_all
  rw [ha] at h3; exact h3
/-- The order of a style that is read. -/
theorem Reads.ord {w : World} {B n k : Nat} {A : Option Addr} {l : List Sty} (h : Reads w B 43 A n (stysCells l)) (hn : n = l.length) (hk : k < l.length) :
    ∃ ad : Addr, A = some ad ∧ ad.block < B ∧ w.cell? ⟨ad.block, (ad.add (k * 43)).off + 37, none⟩ = some (.int .i64 (ordF l k)) := by
  obtain ⟨ad, e, s⟩ := h.st hn hk
  have h1 := s.cs 36 _ (sty_get37 l[k])
  rw [block_of_add] at h1
  obtain ⟨ad2, e2, hb, _⟩ := h.2 (by omega)
  rw [e] at e2; injection e2 with e2; subst e2
  exact ⟨ad, e, hb, by rw [ordF_at l hk]; exact h1⟩
set_option maxRecDepth 100000 in
set_option maxHeartbeats 2000000 in
theorem rorder_any (l : List Sty) (A : Option Addr) (ck : Nat) (w : World) (hn : l.length ≤ 1000) (hr : Reads w w.heap.size 43 A l.length (stysCells l)) :
    Calls Try.prog 66 #[.slice A l.length ck] w fun e w' => (∃ v, e = .returned v ∧ w'.ownsRow w.heap.size 3 1 v l.length (nCells (orderF (ordF l) l.length))) ∧ Below w.heap.size w w' := by
  have HR := Lib.hid hr
  clear hr
  obtain ⟨n, hne⟩ : ∃ n, n = l.length := ⟨_, rfl⟩
  rw [← hne] at HR hn ⊢
  have HN := Lib.hid hne
  clear hne
  go_enter Try.func66, Try.ntmps66
  go_wp2_with fail
  go_loopw [3, 4] (fun v kv wr => ∃ i : Nat, i ≤ n ∧ kv = .int .i64 i ∧ Hid (wr.ownsRow w.heap.size 3 1 v i (nCells (orderF (ordF l) i)) ∧ Below w.heap.size w wr)) (fun _ kv _ => n - (intOf kv).toNat)
  case atStart => exact ⟨0, by omega, rfl, Lib.hid ⟨World.ownsRow_nil _ _ _ _, Below.refl _ _⟩⟩
  case round =>
    obtain ⟨i, hi, rfl, H⟩ := hrel
    obtain ⟨A3, c3, hv3⟩ := own_form H.out.1
    subst hv3
    by_cases hlt : i < n
    rotate_left
    · have g0 : decide ((i : Int) < (n : Int)) = false := decide_eq_false (by omega)
      have g0' : decide (i < n) = false := decide_eq_false hlt
      have hin : i = n := by omega
      rw [hin] at H ⊢
      clear hin hlt g0'
      have g0' : decide (n < n) = false := decide_eq_false (by omega)
      go_wp2_with fail
      go_ret
      exact ⟨⟨_, rfl, H.out.1⟩, H.out.2⟩
    have g0 : decide ((i : Int) < (n : Int)) = true := decide_eq_true (by omega)
    have g0' : decide (i < n) = true := decide_eq_true hlt
    have hki : (i : Int) < (n : Int) := by omega
    have hk0 : (0 : Int) ≤ (i : Int) := by omega
    have wk : IntKind.i64.wrap ((i : Int) + 1) = (i : Int) + 1 := IntWalk.i64_in _ ⟨by omega, by omega⟩
    have hil : i < l.length := by rw [← HN.out]; exact hlt
    obtain ⟨p, hp⟩ : ∃ p, p = orderF (ordF l) i := ⟨_, rfl⟩
    have HP : Hid (orderF (ordF l) (i + 1) = ins (ordF l) i p ∧ p.length = i ∧ (∀ x ∈ p, x < i) ∧ p.Pairwise (lexLt (ordF l))) := Lib.hid (by
      rw [hp]; exact ⟨orderF_succ _ _, orderF_len _ _, fun x hx => (orderF_mem _ _ _).1 hx, orderF_srt _ _⟩)
    rw [← hp] at H
    clear hp
    go_wp2_with (at_builtin; refine wpList_app (m := 1) rfl _ _ rfl el_int2 H.out.1 H.out.2.size rfl [.int .i64 (i : Int)] rfl rfl (by simp [Value.oneCell']) (by omega) (by omega) ?_; intro A8 c8 w8 hown8 hB8 hg8 _; have H8 := Lib.hid (And.intro hown8 (hB8 _ _ (Nat.le_refl _) H.out.2)); clear hown8 hB8 hg8)
    obtain ⟨g8, hA8⟩ := own_addr H8.out.1 (by omega)
    subst hA8
    have HJ : Hid (∃ x, w8.ownsRow w.heap.size 3 1 (.slice (some ⟨g8, 0, none⟩) (i + 1) c8) (i + 1) (nCells (p.take i ++ x :: p.drop i))) := Lib.hid ⟨i, by
      have h := H8.out.1
      rw [List.take_of_length_le (by rw [HP.out.2.1]; exact Nat.le_refl _), List.drop_of_length_le (by rw [HP.out.2.1]; exact Nat.le_refl _)]
      rw [show [Value.int .i64 (i : Int)] = nCells [i] from rfl] at h
      simpa [nCells] using h⟩
    go_loopw [5] (fun kv wr => ∃ k : Nat, k ≤ i ∧ kv = .int .i64 k ∧ Hid ((∃ x, wr.ownsRow w.heap.size 3 1 (.slice (some ⟨g8, 0, none⟩) (i + 1) c8) (i + 1) (nCells (p.take k ++ x :: p.drop k))) ∧ (∀ q (h : q < p.length), k ≤ q → ordF l i < ordF l p[q]) ∧ Below w.heap.size w wr)) (fun kv _ => (intOf kv).toNat)
    case atStart => exact ⟨i, Nat.le_refl _, rfl, Lib.hid ⟨HJ.out, fun q h hq => by have := HP.out.2.1; omega, H8.out.2⟩⟩
    case round =>
      obtain ⟨k, hk, rfl, HK⟩ := hrel
      clear HJ H8
      obtain ⟨x, HO⟩ := HK.out.1
      have HX := Lib.hid HO
      clear HO
      obtain ⟨ad, hA, hab, ho1⟩ := (HR.out.below HK.out.2.2).ord HN.out hil
      subst hA
      have fz := HX.out.frozenAt k
      have cx : wr.cell? ⟨g8, k, none⟩ = some (.int .i64 (x : Int)) := own_at HX.out (by
        have := HP.out.2.1
        unfold nCells
        rw [List.map_append, List.map_cons, List.getElem?_append_right (by simp; omega)]
        simp [show k - min k p.length = 0 by omega])
      have LEAVE : Hid (∀ W, (W.ownsRow w.heap.size 3 1 (.slice (some ⟨g8, 0, none⟩) (i + 1) c8) (i + 1) (nCells (p.take k ++ x :: p.drop k))) → Below w.heap.size w W → (k = 0 ∨ ∀ h : k - 1 < p.length, ordF l p[k - 1] ≤ ordF l i) →
          (W.setCell ⟨g8, k, none⟩ (.int .i64 (i : Int))).ownsRow w.heap.size 3 1 (.slice (some ⟨g8, 0, none⟩) (i + 1) c8) (i + 1) (nCells (orderF (ordF l) (i + 1))) ∧ Below w.heap.size w (W.setCell ⟨g8, k, none⟩ (.int .i64 (i : Int)))) := Lib.hid (fun W ho hb hst => by
        have hpl := HP.out.2.1
        have hin := ins_at (ordF l) i p k (by omega) (fun q h hq => by
          rcases hst with h0 | h0
          · omega
          · have h1 := h0 (by omega)
            by_cases e : q = k - 1
            · subst e; exact h1
            · exact Int.le_trans ((List.pairwise_iff_getElem.1 HP.out.2.2.2) q (k - 1) h (by omega) (by omega)).le h1) HK.out.2.1
        have h := (ho.stored k (.int .i64 (i : Int))).1
        refine ⟨?_, hb.setCell (p := ⟨g8, k, none⟩) (by
          have := ho.lt g8 rfl; exact this.1) _⟩
        rw [HP.out.1, hin]
        have e2 : (nCells (p.take k ++ x :: p.drop k)).set k (.int .i64 (i : Int)) = nCells (p.take k ++ i :: p.drop k) := by
          unfold nCells
          rw [List.map_append, List.map_cons, List.set_append_right _ _ (by simp; omega)]
          simp [show k - min k p.length = 0 by omega]
        rw [e2] at h
        exact h)
      rcases Nat.eq_zero_or_pos k with hk0' | hk0'
      · have gk : decide ((0 : Int) < (k : Int)) = false := decide_eq_false (by omega)
        have gk' : decide (0 < k) = false := decide_eq_false (by omega)
        have HZ := Lib.hid hk0'
        clear hk0'
        go_upto_region 7 with (fail)
        go_quiet (fail)
        go_wp2_with fail
        go_roundw
        case rel => exact ⟨i + 1, by omega, by go_num, Lib.hid (LEAVE.out (wr.drewN _) HX.out (below_dr HK.out.2.2 _) (.inl HZ.out))⟩
        case measure => simp [intOf] <;> omega
      · have gk : decide ((0 : Int) < (k : Int)) = true := decide_eq_true (by omega)
        have gk' : decide (0 < k) = true := decide_eq_true (by omega)
        obtain ⟨j, rfl⟩ : ∃ j, k = j + 1 := ⟨k - 1, by omega⟩
        clear hk0'
        have wj : IntKind.i64.wrap (((j + 1 : Nat) : Int) - 1) = (j : Int) := by rw [show ((j + 1 : Nat) : Int) - 1 = (j : Int) by omega]; exact IntWalk.i64_in _ ⟨by omega, by omega⟩
        have hjp : j < p.length := by have := HP.out.2.1; omega
        obtain ⟨y, hy⟩ : ∃ y, y = p[j] := ⟨_, rfl⟩
        have hyi : y < i := by rw [hy]; exact HP.out.2.2.1 _ (List.getElem_mem hjp)
        have cj : wr.cell? ⟨g8, j, none⟩ = some (.int .i64 (y : Int)) := own_at HX.out (by
          unfold nCells
          rw [List.map_append, List.getElem?_append_left (by simp; omega), List.getElem?_map, List.getElem?_take, if_pos (by omega), List.getElem?_eq_getElem hjp, ← hy]; rfl)
        have HY := Lib.hid hy
        clear hy
        obtain ⟨ad2, hA2, hab2, ho2⟩ := (HR.out.below HK.out.2.2).ord HN.out (show y < l.length by have := HN.out; omega)
        obtain rfl : ad = ad2 := by injection hA2
        clear hA2
        have hyn : (y : Int) < (n : Int) := by omega
        have hy0 : (0 : Int) ≤ (y : Int) := by omega
        have hj0 : (0 : Int) ≤ (j : Int) := by omega
        have hji : (j : Int) < ((i : Int) + 1) := by omega
        by_cases hcmp : ordF l i < ordF l y
        · have gc : decide (ordF l i < ordF l y) = true := decide_eq_true hcmp
          have HCM := Lib.hid hcmp
          clear hcmp
          go_upto_region 7 with (fail)
          go_quiet (fail)
          go_wp2_with fail
          go_roundw
          case rel =>
            refine ⟨j, by omega, rfl, Lib.hid ⟨⟨y, ?_⟩, fun q h hq => ?_, ?_⟩⟩
            · have h := (World.ownsRow.stored (w := wr.drewN nq) HX.out (j + 1) (.int .i64 (y : Int))).1
              have e1 : p.take (j + 1) = p.take j ++ [y] := by rw [List.take_succ_eq_append_getElem hjp, ← HY.out]
              have e2 : p.drop j = y :: p.drop (j + 1) := by rw [List.drop_eq_getElem_cons hjp, ← HY.out]
              have e3 : (nCells (p.take (j + 1) ++ x :: p.drop (j + 1))).set (j + 1) (.int .i64 (y : Int)) = nCells (p.take j ++ y :: p.drop j) := by
                rw [e1, e2]
                unfold nCells
                rw [List.map_append, List.map_cons, List.set_append_right _ _ (by simp; omega)]
                simp [show j + 1 - (min j p.length + 1) = 0 by omega]
              rw [e3] at h; exact h
            · by_cases e : q = j
              · subst e; rw [← HY.out]; exact HCM.out
              · exact HK.out.2.1 q h (by omega)
            · exact (below_dr HK.out.2.2 _).setCell (p := ⟨g8, j + 1, none⟩) (HX.out.lt g8 rfl).1 _
          case measure => simp [intOf] <;> omega
        · have gc : decide (ordF l i < ordF l y) = false := decide_eq_false hcmp
          have HCM := Lib.hid hcmp
          clear hcmp
          go_upto_region 7 with (fail)
          go_quiet (fail)
          go_wp2_with fail
          go_roundw
          case rel => exact ⟨i + 1, by omega, by go_num, Lib.hid (LEAVE.out (wr.drewN _) HX.out (below_dr HK.out.2.2 _) (.inr fun h => by have := HCM.out; rw [HY.out] at this; simp at this ⊢; omega))⟩
          case measure => simp [intOf] <;> omega
end Go.Proofs.Ytbopeofglhkffaa
set_option linter.unusedSimpArgs false
set_option linter.unusedVariables false
namespace Go.Proofs.Ytbopeofglhkffaa
open Go.RowKit
attribute [local go_sem] block_of_add
/-- While the document's rows are made. -/
structure RrI (B n : Nat) (rows : List (List Nat)) (vs : List Value) (v : Value) (w wr : World) : Prop where
  r : RInv rows B vs v wr
  b : Below B w wr
  lo : B ≤ wr.heap.size
section
variable {B n : Nat} {rows rows' : List (List Nat)} {vs vs' : List Value} {v v' : Value} {w wr w' : World}
theorem RrI.drewN (h : RrI B n rows vs v w wr) (k : Nat) : RrI B n rows vs v w (wr.drewN k) := ⟨h.r.kept (below_dr (Below.refl _ _) k), below_dr h.b k, h.lo⟩
end
set_option maxRecDepth 100000 in
set_option maxHeartbeats 4000000 in
theorem rrows_any (s : Sty) (c : Int) (l : List Sty) (got : List Cn) (A Ag : Option Addr) (ck cg : Nat) (w : World) (hn : l.length ≤ 1000) (hr : Reads w w.heap.size 43 A l.length (stysCells l)) (huv : ∀ s ∈ l, ∃ Au nu cu, s.uv = .slice Au nu cu)
    (hg : Reads w w.heap.size 4 Ag got.length (cnsCells got)) (hc : CB c) (hs : ∀ s ∈ l, StM s) (hgc : ∀ x ∈ got, 0 ≤ x.greatest ∧ x.greatest ≤ 1099511627776) :
    Calls Try.prog 44 #[.agg (styCells s).toArray, .int .i64 c, .slice A l.length ck, .slice Ag got.length cg] w fun e w' => RowsAns s c l (itM l c got) w w' e := by
  have HITS := Lib.hid (fun W (hb : Below w.heap.size w W) => ritems_any c l got A Ag ck cg W hn ((hr.below hb).more hb.size) huv ((hg.below hb).more hb.size) hc hs hgc)
  have HORD := Lib.hid (fun W (hb : Below w.heap.size w W) => rorder_any l A ck W hn ((hr.below hb).more hb.size))
  have HMB := Lib.hid (fun k (hk : k < l.length) => itM_itB hs hc hgc k hk)
  have HCB0 := Lib.hid hc
  clear hr hg huv hs hgc
  obtain ⟨n, hne⟩ : ∃ n, n = l.length := ⟨_, rfl⟩
  rw [← hne] at HITS HORD HMB hn ⊢
  have HN := Lib.hid hne
  clear hne
  obtain ⟨m, hme⟩ : ∃ m, m = got.length := ⟨_, rfl⟩
  rw [← hme] at HITS ⊢
  clear hme
  obtain ⟨M, hM⟩ : ∃ M, M = itM l c got := ⟨_, rfl⟩
  rw [← hM] at HITS HMB ⊢
  clear hM
  obtain ⟨ks, hks⟩ : ∃ ks, ks = orderF (ordF l) n := ⟨_, rfl⟩
  rw [← hks] at HORD
  have HKS := Lib.hid hks
  have HKL : Hid (ks.length = n ∧ ∀ k ∈ ks, k < n) := Lib.hid ⟨by rw [hks, orderF_len], fun k hk => by rw [hks] at hk; exact (orderF_mem _ _ _).1 hk⟩
  clear hks
  have hcb := hc.b
  clear hc
  go_enter Try.func44, Try.ntmps44
  go_upto_region 1 with (fail)
  have H1 : Hid (Below w.heap.size w (w.alloc (.cells (styCells s).toArray 52)) ∧ Blk (w.alloc (.cells (styCells s).toArray 52)) w.heap.size 52 (styCells s).toArray) := Lib.hid ⟨bal (Below.refl _ _) _, Blk.new _ _ _⟩
  obtain ⟨gs, hgs⟩ : ∃ gs, gs = w.heap.size := ⟨_, rfl⟩
  obtain ⟨w1, hw1⟩ : ∃ w1, w1 = w.alloc (.cells (styCells s).toArray 52) := ⟨_, rfl⟩
  have HE : Hid (w.alloc (.cells (styCells s).toArray 52) = w1) := Lib.hid hw1.symm
  rw [← hw1, ← hgs] at H1
  rw [← hgs]
  first | rw [HE.out] | (rw [show (w.alloc _) = w1 from HE.out])
  have HGS := Lib.hid hgs
  clear hw1 HE hgs
  rw [← HGS.out] at HITS HORD
  have HSZ : Hid (gs ≤ w1.heap.size) := Lib.hid (by rw [HGS.out]; exact H1.out.1.size)
  go_upto_region 2 with (go_at_call 43; refine (HITS.out w1 H1.out.1).mono ?_; rintro e w2 ⟨⟨v1, rfl, hown⟩, hb2⟩; obtain ⟨Ai, ci, hv1⟩ := own_form hown; subst hv1; have H2 := Lib.hid (And.intro (Reads.of_own hown) (show Below w1.heap.size w1 w2 from hb2)); clear hown hb2)
  go_upto_region 3 with (go_at_call 66; refine (HORD.out w2 (H1.out.1.trans (H2.out.2.mono HSZ.out))).mono ?_; rintro e w3 ⟨⟨v2, rfl, hown⟩, hb3⟩; obtain ⟨Ao, co, hv2⟩ := own_form hown; subst hv2; have H3 := Lib.hid (And.intro (Reads.of_own hown) (show Below w2.heap.size w2 w3 from hb3)); clear hown hb3)
  have H4 : Hid (Blk w3 gs 52 (styCells s).toArray ∧ Reads w3 w3.heap.size 51 Ai n (risC M n) ∧ Reads w3 w3.heap.size 1 Ao n (nCells ks) ∧ Below gs w w3 ∧ gs < w3.heap.size) := Lib.hid (by
    have b3 : Below w1.heap.size w1 w3 := H2.out.2.trans (H3.out.2.mono H2.out.2.size)
    have hbk := H1.out.2.below b3 H1.out.2.lt
    exact ⟨hbk, (H2.out.1.below H3.out.2).more H3.out.2.size, H3.out.1, H1.out.1.trans (b3.mono HSZ.out), hbk.lt⟩)
  clear H1 H2 H3 HITS HORD
  go_wp2_with fail
  obtain ⟨B0, hB0⟩ : ∃ B0, B0 = w3.heap.size := ⟨_, rfl⟩
  have HI0 : Hid (RrI B0 n [] [] (.slice none 0 0) w3 w3) := Lib.hid ⟨RInv.start _ _, Below.refl _ _, by omega⟩
  rw [← hB0] at H4
  have HB0 := Lib.hid hB0
  clear hB0
  go_loopw [11, 12, 13] (fun v sv kv wr => ∃ (i : Nat) (rows : List (List Nat)) (long : Int) (vs : List Value), i ≤ n ∧ sv = .int .i64 long ∧ kv = .int .i64 i ∧ Hid ((rows, long) = (ks.take i).foldl (rowStep s.wrap c (ownM M)) ([], 0)) ∧ Hid (RowsB rows long i) ∧ Hid (RrI B0 n rows vs v w3 wr)) (fun _ _ kv _ => n - (intOf kv).toNat)
  case atStart => exact ⟨0, [], 0, [], by omega, rfl, rfl, Lib.hid rfl, Lib.hid ⟨Nat.le_refl _, fun p => by simp [rowAt], by omega⟩, HI0⟩
  case round =>
    obtain ⟨i, rows, long, vs, hi, rfl, rfl, HST, HRB, HRW⟩ := hrel
    obtain ⟨Av, cv, hv⟩ := own_form HRW.out.r.v
    subst hv
    have hvl : vs.length ≤ i := by rw [HRW.out.r.len]; exact HRB.out.n
    have hlb := HRB.out.l
    by_cases hlt : i < n
    rotate_left
    · have g0 : decide ((i : Int) < (n : Int)) = false := decide_eq_false (by omega)
      have g0' : decide (i < n) = false := decide_eq_false hlt
      have hkn : i = n := by omega
      have HF : Hid (rowsF s.wrap c (ownM M) (orderF (ordF l) n) = rows) := Lib.hid (by
        have h := HST.out
        rw [hkn, List.take_of_length_le (by rw [HKL.out.1]; exact Nat.le_refl _), HKS.out] at h
        unfold rowsF; rw [← h])
      clear hkn hlt
      go_wp2_with fail
      go_ret
      rw [HN.out] at HF
      have hlow : gs ≤ B0 := by have := H4.out.2.2.2.2; omega
      refine ⟨⟨_, rfl, ?_⟩, by rw [← HGS.out]; exact H4.out.2.2.2.1.trans (HRW.out.b.mono hlow)⟩
      rw [HF.out, ← HGS.out]
      exact HRW.out.r.fin hlow
    have g0 : decide ((i : Int) < (n : Int)) = true := decide_eq_true (by omega)
    have g0' : decide (i < n) = true := decide_eq_true hlt
    have hki : (i : Int) < (n : Int) := by omega
    have hk0 : (0 : Int) ≤ (i : Int) := by omega
    have wk : IntKind.i64.wrap ((i : Int) + 1) = (i : Int) + 1 := IntWalk.i64_in _ ⟨by omega, by omega⟩
    have hkl : i < ks.length := by rw [HKL.out.1]; exact hlt
    obtain ⟨kk, hkk⟩ : ∃ kk, kk = ks[i] := ⟨_, rfl⟩
    have hkn : kk < n := by rw [hkk]; exact HKL.out.2 _ (List.getElem_mem hkl)
    have HBW : Hid (Below B0 w3 wr) := Lib.hid HRW.out.b
    obtain ⟨ao, uo, rfl, hao, hxo, hco⟩ := (H4.out.2.2.1.below HBW.out).at_ hlt
    have huo : uo = .int .i64 (kk : Int) := by rw [hkk]; simpa [nCells, hkl] using hxo.symm
    subst huo
    have HKK := Lib.hid hkk
    clear hkk hxo
    obtain ⟨ai, rfl, x45, x47⟩ := (H4.out.2.1.below HBW.out).ri hkn
    have hib := HMB.out kk hkn
    obtain ⟨sd, hsd⟩ : ∃ sd, sd = (M kk).sides := ⟨_, rfl⟩
    obtain ⟨gu, hgu⟩ : ∃ gu, gu = (M kk).guess := ⟨_, rfl⟩
    have hs1 := hib.sides
    have hg1 := hib.guess
    rw [← hsd] at hs1 x45
    rw [← hgu] at hg1 x47
    have HOW : Hid (ownM M kk = gu + sd) := Lib.hid (by rw [hsd, hgu]; unfold ownM; omega)
    clear hib hsd hgu
    have hkn2 : (kk : Int) < (n : Int) := by omega
    have hkn3 : (0 : Int) ≤ (kk : Int) := by omega
    have w6 : IntKind.i64.wrap (long + gu) = long + gu := IntWalk.i64_in _ ⟨by omega, by omega⟩
    have w7 : IntKind.i64.wrap (long + gu + sd) = long + gu + sd := IntWalk.i64_in _ ⟨by omega, by omega⟩
    have w8 : IntKind.i64.wrap (gu + sd) = gu + sd := IntWalk.i64_in _ ⟨by omega, by omega⟩
    go_upto_region 9 with (fail)
    go_quiet (fail)
    obtain ⟨wc, hwc⟩ : ∃ wc, wc = wr.drewN nq := ⟨_, rfl⟩
    have HRC : Hid (RrI B0 n rows vs (.slice Av vs.length cv) w3 wc) := Lib.hid (by rw [hwc]; exact HRW.out.drewN _)
    rw [← hwc]
    clear hwc hco x45 x47 HBW
    obtain ⟨L2, hL2⟩ : ∃ L2, L2 = long + gu + sd := ⟨_, rfl⟩
    have HL2 : Hid (L2 = long + ownM M kk) := Lib.hid (by rw [hL2, HOW.out]; omega)
    rw [← hL2]
    obtain ⟨own, hown⟩ : ∃ own, own = gu + sd := ⟨_, rfl⟩
    have hl2b : -6000000000000000000 ≤ L2 ∧ L2 ≤ 6000000000000000000 := by omega
    rw [← hown] at w8 HOW
    clear w6 w7 hL2 hown hs1 hg1 hlb
    have HEM : Hid (rows.length = 0 ↔ i = 0) := Lib.hid (by
      have hra := rows_all s.wrap c (ownM M) (ks.take i)
      rw [← HST.out] at hra
      constructor
      · intro h
        have h1 := hra.none (List.length_eq_zero_iff.1 h)
        have h2 := congrArg List.length h1
        rw [List.length_take, List.length_nil] at h2; omega
      · intro h
        have h1 := hra.flat
        rw [h] at h1
        have h2 : rows.flatten = [] := by simpa using h1
        have h3 := rows_count hra.ne
        have h4 : rows.length ≤ rows.flatten.length := h3
        rw [h2] at h4; simpa using h4)
    go_upto_region 10 with (fail)
    go_cut [54] (fun sx wx => sx = .bool (condR rows s.wrap c L2) ∧ wc = wx)
    case first =>
      have cw : wc.cell? ⟨gs, 34, none⟩ = some (.bool s.wrap) := (H4.out.1.below HRC.out.b H4.out.2.2.2.2).get 34 rfl
      by_cases h0 : i = 0
      · have e0 : ((i : Int) == 0) = true := beq_iff_eq.2 (by omega)
        have HC : Hid (condR rows s.wrap c L2 = true) := Lib.hid (by unfold condR; simp [HEM.out.2 h0])
        clear h0
        go_wp2_with fail
        go_meet
        exact ⟨by rw [HC.out], rfl⟩
      · have e0 : ((i : Int) == 0) = false := beq_eq_false_iff_ne.2 (by omega)
        have hr0 : ¬ rows.length = 0 := fun h => h0 (HEM.out.1 h)
        have HR0 := Lib.hid hr0
        clear h0 hr0
        cases hwr : s.wrap
        · rw [hwr] at cw
          have HWR := Lib.hid hwr
          have HC : Hid (condR rows false c L2 = false) := Lib.hid (by unfold condR; simp [HR0.out])
          clear hwr
          go_wp2_with fail
          go_meet
          exact ⟨by rw [HWR.out, HC.out], rfl⟩
        · rw [hwr] at cw
          have HWR := Lib.hid hwr
          clear hwr
          cases hcl : decide (c < L2)
          · have HC : Hid (condR rows true c L2 = false) := Lib.hid (by unfold condR; simp [HR0.out, hcl])
            go_wp2_with fail
            go_meet
            exact ⟨by rw [HWR.out, HC.out], rfl⟩
          · have HC : Hid (condR rows true c L2 = true) := Lib.hid (by unfold condR; simp [HR0.out, hcl])
            go_wp2_with fail
            go_meet
            exact ⟨by rw [HWR.out, HC.out], rfl⟩
    case rest =>
      obtain ⟨rfl, rfl⟩ := hcut
      obtain ⟨cb, hcb⟩ : ∃ cb, cb = condR rows s.wrap c L2 := ⟨_, rfl⟩
      rw [← hcb]
      have HCB := Lib.hid hcb
      clear hcb HRW
      go_upto_if 54 with (fail)
      go_cut [11, 12] (fun s11 s12 wx => ∃ (rows1 : List (List Nat)) (long1 : Int) (vs1 : List Value), s12 = .int .i64 long1 ∧ Hid (rows1 = (if cb then rows ++ [[]] else rows) ∧ long1 = if cb then own else L2) ∧ Hid (RrI B0 n rows1 vs1 s11 w3 wx))
      case first =>
        cases cb
        · go_wp2_with fail
          go_meet
          exact ⟨rows, L2, vs, rfl, Lib.hid ⟨rfl, rfl⟩, HRC⟩
        · have h9 : vs.length + 1 ≤ 4294967296 := by omega
          go_upto_region 12 with (at_builtin; refine wpList_app (m := 1) rfl _ _ rfl el_row HRC.out.r.v HRC.out.lo rfl [.slice none 0 0] rfl rfl (by simp [Value.oneCell']) h9 (by omega) ?_; intro A1 c1 w10 hown10 hB10 hg10 _; have HR10 : Hid (RrI B0 n (rows ++ [[]]) (vs ++ [.slice none 0 0]) (.slice A1 (vs.length + 1) c1) w3 w10) := Lib.hid ⟨HRC.out.r.push hown10 hg10, hB10 _ _ (Nat.le_refl _) HRC.out.b, Nat.le_trans HRC.out.lo hg10.size⟩; clear hown10 hB10 hg10)
          obtain ⟨ai2, e2, x45, x47⟩ := (H4.out.2.1.below HR10.out.b).ri hkn
          obtain rfl : ai = ai2 := by injection e2
          clear e2
          have HOS := Lib.hid (show (M kk).guess + (M kk).sides = own by rw [← HOW.out]; unfold ownM; omega)
          obtain ⟨sd2, hsd2⟩ : ∃ sd, sd = (M kk).sides := ⟨_, rfl⟩
          obtain ⟨gu2, hgu2⟩ : ∃ gu, gu = (M kk).guess := ⟨_, rfl⟩
          rw [← hsd2] at x45 HOS
          rw [← hgu2] at x47 HOS
          have w9 : IntKind.i64.wrap (gu2 + sd2) = own := by rw [HOS.out]; exact IntWalk.i64_in _ (by
            have := HMB.out kk hkn
            have h1 := this.sides
            have h2 := this.guess
            have h3 := HOS.out
            constructor <;> omega)
          clear hsd2 hgu2 HOS
          go_quiet (fail)
          go_wp2_with fail
          go_meet
          exact ⟨_, own, _, rfl, Lib.hid ⟨rfl, rfl⟩, Lib.hid (HR10.out.drewN _)⟩
      case rest =>
        obtain ⟨rows1, long1, vs1, rfl, HX, HR⟩ := hcut
        obtain ⟨wd, rfl⟩ : ∃ wd, wd = wc := ⟨_, rfl⟩
        have hpos : 0 < vs1.length := by
          rw [HR.out.r.len, HX.out.1]
          cases cb
          · have := HCB.out
            unfold condR at this
            have h0 : decide (rows.length = 0) = false := by
              cases h : decide (rows.length = 0)
              · rfl
              · rw [h] at this; simp at this
            have := of_decide_eq_false h0
            simp only [Bool.false_eq_true, if_false]
            omega
          · simp
        obtain ⟨q, hq⟩ : ∃ q, vs1.length = q + 1 := ⟨vs1.length - 1, by omega⟩
        obtain ⟨gv, cv1, hv, hgv, _⟩ := HR.out.r.v.form hpos
        subst hv
        have hqv : q < vs1.length := by omega
        obtain ⟨Ar, cr, hvr⟩ := own_form (HR.out.r.own q hqv)
        have hro := HR.out.r.own q hqv
        have hcq := HR.out.r.v.cellAt q (by omega)
        rw [List.getElem?_eq_getElem hqv, hvr] at hcq
        have hrl : (rowAt rows1 q).length ≤ i := by
          rw [HX.out.1]
          have hr := HRB.out.r q
          cases cb
          · simp only [Bool.false_eq_true, if_false]; exact hr
          · simp only [if_true]
            unfold rowAt at hr ⊢
            by_cases hp : q < rows.length
            · rw [List.getElem?_append_left hp]; exact hr
            · rw [List.getElem?_append_right (by omega)]
              cases hq : q - rows.length with
              | zero => simp
              | succ q => simp
        have h9 : (rowAt rows1 q).length + 1 ≤ 4294967296 := by omega
        rw [hq]
        have hql : q < 4294967296 := by have := HR.out.r.len; have := HRB.out.n; have := HX.out.1; cases cb <;> simp_all <;> omega
        have wq : IntKind.i64.wrap ((q : Int) + 1 - 1) = (q : Int) := by rw [IntWalk.i64_in _ ⟨by omega, by omega⟩]; omega
        have hq0 : (0 : Int) ≤ (q : Int) := by omega
        have hq1 : (q : Int) < (q : Int) + 1 := by omega
        have hvk : ∀ {w13 : World}, wd.grownBy w13 vs1[q].ownBlock → w13.cell? ⟨gv, q, none⟩ = some (.slice Ar (rowAt rows1 q).length cr) ∧ w13.frozen? ⟨gv, q, none⟩ = false := fun {w13} hg => by
          have h13 := HR.out.r.v.kept hg (own_ne HR.out.r.v (HR.out.r.own q hqv) (by decide))
          refine ⟨?_, h13.frozenAt q⟩
          rw [h13.cellAt q (by omega), List.getElem?_eq_getElem hqv, hvr]
        have hst : ∀ {w13 : World} {nv : Value}, wd.grownBy w13 vs1[q].ownBlock → w13.ownsRow B0 3 1 nv ((rowAt rows1 q).length + 1) (nCells (rowAt rows1 q) ++ [.int .i64 (kk : Int)]) → (nv.ownBlock = vs1[q].ownBlock ∨ wd.heap.size ≤ (nv.ownBlock).getD wd.heap.size) → Below B0 w3 w13 →
            RrI B0 n (rows1.set q (rowAt rows1 q ++ [kk])) (vs1.set q nv) (.slice (some ⟨gv, 0, none⟩) vs1.length cv1) w3 (w13.setCell ⟨gv, q, none⟩ nv) := fun {w13 nv} hg ho hb hbb =>
          ⟨HR.out.r.add hqv ho hg hb rfl, hbb.setCell (p := ⟨gv, q, none⟩) (HR.out.r.v.lt gv rfl).1 _, by have := HR.out.lo; have := hg.size; simp only [World.setCell] at *; simp; omega⟩
        have hrs : (rows1.set q (rowAt rows1 q ++ [kk]), long1) = rowStep s.wrap c (ownM M) (rows, long) kk := by
          have hl := HR.out.r.len
          have hcb := HCB.out
          rw [HX.out.1] at hl ⊢
          rw [HX.out.2]
          unfold rowStep
          have e2 : (long + ownM M kk) = L2 := by rw [HL2.out]
          simp only [e2]
          cases cb
          · have hc2 : ¬ (rows.length = 0 ∨ s.wrap = true ∧ c < L2) := fun h => by
              unfold condR at hcb
              rcases h with h | ⟨h1, h2⟩
              · rw [decide_eq_true h] at hcb; simp at hcb
              · rw [h1, decide_eq_true h2] at hcb; simp at hcb
            rw [if_neg hc2]
            simp only [Bool.false_eq_true, if_false] at hl ⊢
            have hp : 0 < rows.length := by omega
            have hqe : q = rows.length - 1 := by omega
            rw [hqe, rows_old rows kk hp]
          · have hc2 : rows.length = 0 ∨ s.wrap = true ∧ c < L2 := by
              unfold condR at hcb
              by_cases h : rows.length = 0
              · exact .inl h
              · rw [decide_eq_false h] at hcb
                have := hcb.symm
                simp only [Bool.false_or, Bool.and_eq_true, decide_eq_true_eq] at this
                exact .inr this
            rw [if_pos hc2]
            simp only [if_true] at hl ⊢
            have hqe : q = rows.length := by simp at hl; omega
            rw [hqe, rows_new, show ownM M kk = own by rw [HOW.out]]
        rw [hvr] at hvk hst hro
        have HRO := Lib.hid hro
        have HVK := Lib.hid (fun (w13 : World) => @hvk w13)
        have HSTP := Lib.hid (fun (w13 : World) (nv : Value) => @hst w13 nv)
        have HRS := Lib.hid hrs
        have HQ := Lib.hid hq
        rw [hq] at HSTP
        clear hro hvr hq hgv hvk hst hrs hl2b
        go_upto_region 7 with (at_builtin; refine wpList_app (m := 1) rfl _ _ rfl el_int2 HRO.out HR.out.lo rfl [.int .i64 (kk : Int)] rfl rfl (by simp [Value.oneCell']) h9 (by omega) ?_; intro A3 c3 w13 hown13 hB13 hg13 hob13; have HF := Lib.hid (HSTP.out w13 _ hg13 hown13 hob13 (hB13 _ _ (Nat.le_refl _) HR.out.b)); have p1 := (HVK.out w13 hg13).1; have p2 := (HVK.out w13 hg13).2; clear hown13 hB13 hg13 hob13)
        have HTK : Hid ((rows1.set q (rowAt rows1 q ++ [kk]), long1) = (ks.take (i + 1)).foldl (rowStep s.wrap c (ownM M)) ([], 0) ∧ RowsB (rows1.set q (rowAt rows1 q ++ [kk])) long1 (i + 1)) := Lib.hid (by
          have e : ks.take (i + 1) = ks.take i ++ [kk] := by rw [List.take_succ_eq_append_getElem hkl, ← HKK.out]
          refine ⟨by rw [e, List.foldl_append, ← HST.out]; exact HRS.out, ?_⟩
          have hb := rowsB_step (wrap := s.wrap) (c := c) (f := ownM M) (kk := kk) HRB.out (by
            have := (HMB.out kk hkn).sides; have := (HMB.out kk hkn).guess; unfold ownM; omega)
          rw [← HRS.out] at hb
          exact hb)
        clear p1 p2 hcq
        go_wp2_with fail
        go_roundw
        case rel => exact ⟨i + 1, _, long1, _, by omega, rfl, by go_num, HTK.out.1 |> Lib.hid, Lib.hid HTK.out.2, HF⟩
        case measure => simp [intOf] <;> omega
end Go.Proofs.Ytbopeofglhkffaa
