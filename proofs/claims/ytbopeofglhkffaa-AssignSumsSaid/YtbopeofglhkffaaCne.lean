/- Contracts: content.wanted: its rows. -/
import Derived.Test.YtbopeofglhkffaaCnc
import Derived.Test.YtbopeofglhkffaaTra
set_option linter.unusedSimpArgs false
set_option linter.unusedVariables false
namespace Go.Proofs.Ytbopeofglhkffaa
open Go.RowKit
attribute [local go_sem] block_of_add
set_option maxRecDepth 100000 in
set_option maxHeartbeats 1000000 in
theorem style_any (l : List Nd) (adv : List Int) (A A2 : Option Addr) (c m c2 : Nat) (view : Int) (w : World) (q : Nat) (hql : q < l.length) (ht : TrH w w.heap.size A A2 l adv) :
    Calls Try.prog 71 #[.agg #[.slice A l.length c, .slice A2 m c2, .int .i64 view], .int .i64 q] w fun e w' => e = .returned (.agg (styCells l[q].s).toArray) ∧ Below w.heap.size w w' := by
  obtain ⟨ad, rfl, hnd⟩ := ht.nd.nd rfl hql
  obtain ⟨Au, cu, huv, _⟩ := ht.un l[q] (List.getElem_mem hql)
  obtain ⟨x, hx⟩ : ∃ x, x = l[q].s := ⟨_, rfl⟩
  have hl : ad.block < w.heap.size := by have := hnd.lt; rw [block_of_add] at this; exact this
  have HC : Hid (∀ (o : Obj) (o2 : Obj) j u, (styCells x)[j]? = some u → ((w.alloc o).alloc o2).cell? ((⟨ad.block, (ad.add (q * 44)).off + 1, none⟩ : Addr).add j) = some u) := Lib.hid (by
    intro o o2 j u hu
    have hj : (⟨ad.block, (ad.add (q * 44)).off + 1, none⟩ : Addr).add j = ⟨(ad.add (q * 44)).block, (ad.add (q * 44)).off + (1 + j), none⟩ := by
      rw [block_of_add]
      unfold Addr.add
      split <;> simp_all <;> omega
    rw [hj]
    have h1 := hnd.cs j u (by rw [← hx]; exact hu)
    rw [World.cell?_alloc_lt _ _ _ (by rw [block_of_add]; simp; omega), World.cell?_alloc_lt _ _ _ (by rw [block_of_add]; exact hl)]
    exact h1)
  have HO := Lib.hid (Sty.one x (by rw [hx]; exact huv))
  rw [← hx]
  have e1 : decide ((q : Int) < 0) = false := decide_eq_false (by omega)
  have e2 : decide ((l.length : Int) ≤ (q : Int)) = false := decide_eq_false (by omega)
  have e2' : decide (l.length ≤ q) = false := decide_eq_false (by omega)
  have e3 : decide ((q : Int) < (l.length : Int)) = true := decide_eq_true (by omega)
  have HBB : Hid (∀ o o2 : Obj, Below w.heap.size w ((w.alloc o).alloc o2)) := Lib.hid (fun o o2 => ((Below.refl _ _).alloc (Nat.le_refl _) _).alloc (by simp) _)
  clear hx hnd huv ht
  go_enter Try.func71, Try.ntmps71
  go_wp2_with (first
    | refine wpList_load_at rfl 52 _ rfl ⟨ad.block, (ad.add (q * 44)).off + 1, none⟩ rfl (styCells x) _ (HC.out _ _) Try.underlying52 rfl (by kernel_rfl) ?_
    | refine wpList_store_new rfl 52 _ _ rfl (w.heap.size + 1) (by simp) (styCells x).toArray rfl rfl 52 _ (by kernel_rfl) rfl HO.out ?_)
  refine bodyPost_ret (results_cell_row rfl _ _ (w.heap.size + 1) 52 (styCells x).toArray (0, 0) _ rfl (Blk.at_ _ _ _ (by simp)) Try.underlying52 rfl (by kernel_rfl)) rfl ?_
  exact ⟨rfl, HBB.out _ _⟩
theorem bits_not (x : Int) (h0 : 0 ≤ x) (h1 : x ≤ 4611686018427387904) : bits BinOp.xor .i64 (-1) x = -1 - x := by
  obtain ⟨n, rfl⟩ := Int.eq_ofNat_of_zero_le h0
  have e1 : BitVec.ofInt 64 (-1) = BitVec.allOnes 64 := by decide
  have e2 : (BitVec.ofInt 64 (n : Int)).toNat = n := by rw [BitVec.toNat_ofInt]; omega
  show IntKind.i64.wrap ((BitVec.ofInt 64 (-1) ^^^ BitVec.ofInt 64 (n : Int)).toNat : Int) = _
  rw [e1, BitVec.allOnes_xor, BitVec.toNat_not, e2]
  simp only [IntKind.wrap, IntKind.signed, IntKind.bits]
  simp
  omega
structure GrtAns (a b : List Int) (va vb : Value) (w w' : World) (e : Ending) : Prop where
  ex : (a.sum < b.sum ∧ e = .returned vb) ∨ (b.sum ≤ a.sum ∧ e = .returned va)
  b : Below w.heap.size w w'
set_option maxHeartbeats 1000000 in
theorem greater_any (a b : List Int) (va vb : Value) (w : World) (ha : I64s a) (hb : ∀ x ∈ b, 0 ≤ x ∧ x ≤ 4611686018427387904) (hna : a.length ≤ 100000) (hnb : b.length ≤ 100000) (hva : SlAt w w.heap.size va a) (hvb : SlAt w w.heap.size vb b) :
    Calls Try.prog 76 #[va, vb] w fun e w' => GrtAns a b va vb w w' e := by
  obtain ⟨Ab, cb, rfl, hb1, hb2, hb3, hb4⟩ := hvb
  have HA := Lib.hid ha
  have HBD := Lib.hid hb
  have HB3 := Lib.hid hb3
  have HCL := Lib.hid (clone_sl a va w (by omega) hva)
  have HSB := Lib.hid hb4
  clear ha hb hva hb3 hb4
  go_enter Try.func76, Try.ntmps76
  go_wp2_with fail
  refine HCL.out.mono ?_
  rintro e w1 ⟨⟨A1, c1, rfl, hown1⟩, hb1⟩
  have H1 := Lib.hid (And.intro hown1 hb1)
  clear hown1 hb1
  go_wp2_with fail
  go_loopw [5, 7, 14] (fun v5 v7 iv wr => ∃ (j : Nat) (r : List Int), j ≤ b.length ∧ iv = .int .i64 j ∧ Hid (wr.ownsRow w.heap.size 2 1 v5 r.length (i64s r) ∧ r.sum = a.sum - (b.take j).sum ∧ r.length = a.length + 2 * j ∧ I64s r ∧ Below w.heap.size w wr)) (fun _ _ iv _ => b.length - (intOf iv).toNat)
  case atStart => exact ⟨0, a, by omega, rfl, Lib.hid ⟨H1.out.1, by simp, rfl, HA.out, H1.out.2⟩⟩
  case round =>
    obtain ⟨j, r, hj, rfl, H⟩ := hrel
    obtain ⟨A5, c5, h5⟩ := own_form H.out.1
    subst h5
    have hwj : IntKind.i64.wrap ((j : Int) + 1) = (j : Int) + 1 := IntWalk.i64_in _ ⟨by omega, by omega⟩
    by_cases hlt : j < b.length
    · have d0 : decide ((j : Int) < (b.length : Int)) = true := decide_eq_true (by omega)
      have d0' : decide (j < b.length) = true := decide_eq_true hlt
      obtain ⟨ad, u, rfl, hab, hx, hc⟩ := (HB3.out.below H.out.2.2.2.2).at_ hlt
      have hu : u = .int .i64 b[j] := by simpa [i64s, hlt] using hx.symm
      subst hu
      obtain ⟨x, hxx⟩ : ∃ x, x = b[j] := ⟨_, rfl⟩
      have hxb := HBD.out b[j] (List.getElem_mem hlt)
      have HS : Hid ((b.take (j + 1)).sum = (b.take j).sum + x) := Lib.hid (by rw [List.take_add_one, List.getElem?_eq_getElem hlt, List.sum_append, hxx]; simp)
      rw [← hxx] at hc hxb
      have HXB := Lib.hid hxb
      clear hxx hx hab hxb
      have HBT := Lib.hid (bits_not x HXB.out.1 HXB.out.2)
      have hr9 : r.length + 2 ≤ 4294967296 := by have := H.out.2.2.1; omega
      have HSZ := Lib.hid H.out.2.2.2.2.size
      go_wp2_with (at_builtin; refine wpList_app (m := 2) rfl _ _ rfl el_i64c H.out.1 HSZ.out rfl [.int .i64 (bits BinOp.xor .i64 (-1) x), .int .i64 1] rfl (by simp) (by simp [Value.oneCell']) hr9 (by omega) ?_; intro A6 c6 w6 hown6 hB6 hg6 hob6; rw [HBT.out] at hown6; have HO6 := Lib.hid (And.intro hown6 hB6); clear hown6 hB6 hg6 hob6)
      go_roundw
      case rel => exact ⟨j + 1, r ++ [-1 - x, 1], by omega, by go_num, Lib.hid ⟨by have := HO6.out.1; rw [List.length_append]; simpa [i64s] using this, by rw [List.sum_append, H.out.2.1, HS.out]; simp; omega, by rw [List.length_append, H.out.2.2.1]; simp; omega, fun y hy => by
        rcases List.mem_append.1 hy with hy | hy
        · exact H.out.2.2.2.1 y hy
        · have := HXB.out
          simp only [List.mem_cons, List.not_mem_nil, or_false] at hy
          omega, HO6.out.2 _ _ (Nat.le_refl _) H.out.2.2.2.2⟩⟩
      case measure => simp [intOf]; omega
    · have d0 : decide ((j : Int) < (b.length : Int)) = false := decide_eq_false (by omega)
      have d0' : decide (j < b.length) = false := decide_eq_false hlt
      have HSL := Lib.hid (SlAt.own H.out.1)
      have HS : Hid (r.sum = a.sum - b.sum) := Lib.hid (by rw [H.out.2.1, List.take_of_length_le (by omega)])
      go_wp2_with fail
      refine (sum_sl r _ _ H.out.2.2.2.1 (by have := H.out.2.2.1; omega) HSL.out).mono ?_
      rintro e w9 ⟨rfl, hw9⟩
      have HW9 := Lib.hid (H.out.2.2.2.2.trans (hw9.mono H.out.2.2.2.2.size))
      rw [HS.out]
      obtain ⟨S, hS⟩ : ∃ S, S = cutF (a.sum - b.sum) := ⟨_, rfl⟩
      rw [← hS]
      have HSS := Lib.hid hS
      clear hS hw9
      cases hd : decide (S < 0)
      · have HF := Lib.hid (show b.sum ≤ a.sum by have := of_decide_eq_false hd; rw [HSS.out] at this; have := cutF_cases (a.sum - b.sum); omega)
        go_wp2_with fail
        go_ret
        exact ⟨.inr ⟨HF.out, rfl⟩, HW9.out⟩
      · have HF := Lib.hid (show a.sum < b.sum by have := of_decide_eq_true hd; rw [HSS.out] at this; have := cutF_cases (a.sum - b.sum); omega)
        go_wp2_with fail
        go_ret
        exact ⟨.inl ⟨HF.out, rfl⟩, HW9.out⟩
end Go.Proofs.Ytbopeofglhkffaa
set_option linter.unusedSimpArgs false
set_option linter.unusedVariables false
namespace Go.Proofs.Ytbopeofglhkffaa
open Go.RowKit
attribute [local go_sem] block_of_add
/-- The rows of least and greatest widths, each in a variable of its own. -/
structure WanI (w wr : World) (v9 v10 : Value) (L G : List Int) (bt bs bk : Array Value) : Prop where
  o9 : wr.ownsRow (w.heap.size + 1 + 1 + 1 + 1 + 1) 2 1 v9 L.length (i64s L)
  o10 : wr.ownsRow (w.heap.size + 1 + 1 + 1 + 1 + 1) 2 1 v10 G.length (i64s G)
  d9 : v9.ownBlock = none ∨ v9.ownBlock ≠ v10.ownBlock
  d10 : v10.ownBlock = none ∨ v10.ownBlock ≠ v9.ownBlock
  c9 : Blk wr (w.heap.size + 1 + 1 + 1) 23 #[v9]
  c10 : Blk wr (w.heap.size + 1 + 1 + 1 + 1) 23 #[v10]
  t : Blk wr (w.heap.size) 25 bt
  s : Blk wr (w.heap.size + 1) 52 bs
  k : Blk wr (w.heap.size + 1 + 1) 36 bk
  b : Below w.heap.size w wr
theorem WanI.kept {w wr w' : World} {v9 v10 : Value} {L G : List Int} {bt bs bk : Array Value} (h : WanI w wr v9 v10 L G bt bs bk) (hb : Below wr.heap.size wr w') : WanI w w' v9 v10 L G bt bs bk :=
  ⟨own_below h.o9 hb, own_below h.o10 hb, h.d9, h.d10, h.c9.below hb h.c9.lt, h.c10.below hb h.c10.lt, h.t.below hb h.t.lt, h.s.below hb h.s.lt, h.k.below hb h.k.lt, h.b.trans (hb.mono h.b.size)⟩
theorem WanI.mid9 {w W1 w3 : World} {v9 v10 : Value} {L G : List Int} {bt bs bk : Array Value} (h : WanI w W1 v9 v10 L G bt bs bk) (hg : W1.grownBy w3 v9.ownBlock) :
    Blk w3 (w.heap.size + 1 + 1 + 1) 23 #[v9] ∧ Blk w3 (w.heap.size + 1 + 1 + 1 + 1) 23 #[v10] :=
  ⟨h.c9.grown hg (own_far h.o9 (by omega)), h.c10.grown hg (own_far h.o9 (by omega))⟩
theorem WanI.mid10 {w W1 w3 : World} {v9 v10 : Value} {L G : List Int} {bt bs bk : Array Value} (h : WanI w W1 v9 v10 L G bt bs bk) (hg : W1.grownBy w3 v10.ownBlock) :
    Blk w3 (w.heap.size + 1 + 1 + 1) 23 #[v9] ∧ Blk w3 (w.heap.size + 1 + 1 + 1 + 1) 23 #[v10] :=
  ⟨h.c9.grown hg (own_far h.o10 (by omega)), h.c10.grown hg (own_far h.o10 (by omega))⟩
theorem grown_far {w W1 w3 : World} {b1 n1 : Nat} {e : TypeId} {v : Value} {xs : List Value} {g : Nat} {t : TypeId} {cs : Array Value} (ho : w.ownsRow b1 e 1 v n1 xs) (hg : W1.grownBy w3 v.ownBlock) (hb : Blk W1 g t cs) (hl : w.heap.size ≤ g) : Blk w3 g t cs :=
  hb.grown hg (fun e => by have := (ho.lt g e.symm).2; omega)
theorem WanI.step9 {w W1 w3 : World} {v9 v10 : Value} {L G : List Int} {bt bs bk : Array Value} (h : WanI w W1 v9 v10 L G bt bs bk) {x : Int} {A : Option Addr} {c : Nat}
    (ho : w3.ownsRow (w.heap.size + 1 + 1 + 1 + 1 + 1) 2 1 (.slice A (L.length + 1) c) (L.length + 1) (i64s L ++ [.int .i64 x])) (hg : W1.grownBy w3 v9.ownBlock)
    (hob : (Value.slice A (L.length + 1) c).ownBlock = v9.ownBlock ∨ W1.heap.size ≤ ((Value.slice A (L.length + 1) c).ownBlock).getD W1.heap.size) :
    WanI w (w3.setCell ⟨w.heap.size + 1 + 1 + 1, 0, none⟩ (.slice A (L.length + 1) c)) (.slice A (L.length + 1) c) v10 (L ++ [x]) G bt bs bk := by
  have hm := h.mid9 hg
  have far : ∀ {g : Nat} {t : TypeId} {cs : Array Value}, Blk W1 g t cs → g < w.heap.size + 1 + 1 + 1 + 1 + 1 → Blk w3 g t cs := fun hb hl => hb.grown hg (own_far h.o9 hl)
  have dd : (Value.slice A (L.length + 1) c).ownBlock = none ∨ (Value.slice A (L.length + 1) c).ownBlock ≠ v10.ownBlock := by
    rcases hob with e | e
    · rw [e]; exact h.d9
    · cases hv : (Value.slice A (L.length + 1) c).ownBlock with
      | none => exact .inl rfl
      | some g => exact .inr (fun e2 => by have := (h.o10.lt g e2.symm).2; rw [hv] at e; simp at e; omega)
  refine ⟨?_, ?_, dd, ?_, ?_, hm.2.far (by first | omega | (simp; done) | (simp; omega)) _, (far h.t (by omega)).far (by first | omega | (simp; done) | (simp; omega)) _, (far h.s (by omega)).far (by first | omega | (simp; done) | (simp; omega)) _, (far h.k (by omega)).far (by first | omega | (simp; done) | (simp; omega)) _, ?_⟩
  · rw [List.length_append]; exact ownsRow_setCell_below (by simpa [i64s] using ho) (a := ⟨w.heap.size + 1 + 1 + 1, 0, none⟩) (by first | omega | (simp; done) | (simp; omega)) _
  · exact ownsRow_setCell_below (h.o10.kept hg h.d10) (a := ⟨w.heap.size + 1 + 1 + 1, 0, none⟩) (by first | omega | (simp; done) | (simp; omega)) _
  · cases hv : v10.ownBlock with
    | none => exact .inl rfl
    | some g => exact .inr (fun e => by
        rcases dd with d | d
        · rw [d] at e; cases e
        · exact d (by rw [← e, hv]))
  · have := hm.1.set_ 0 (.slice A (L.length + 1) c); simpa using this
  · exact (h.b.grown hg h.b.size (fun g e => by have := (h.o9.lt g e.symm.symm).1; omega)).setCell (p := ⟨w.heap.size + 1 + 1 + 1, 0, none⟩) (by first | omega | (simp; done) | (simp; omega)) _
theorem WanI.step10 {w W1 w3 : World} {v9 v10 : Value} {L G : List Int} {bt bs bk : Array Value} (h : WanI w W1 v9 v10 L G bt bs bk) {x : Int} {A : Option Addr} {c : Nat}
    (ho : w3.ownsRow (w.heap.size + 1 + 1 + 1 + 1 + 1) 2 1 (.slice A (G.length + 1) c) (G.length + 1) (i64s G ++ [.int .i64 x])) (hg : W1.grownBy w3 v10.ownBlock)
    (hob : (Value.slice A (G.length + 1) c).ownBlock = v10.ownBlock ∨ W1.heap.size ≤ ((Value.slice A (G.length + 1) c).ownBlock).getD W1.heap.size) :
    WanI w (w3.setCell ⟨w.heap.size + 1 + 1 + 1 + 1, 0, none⟩ (.slice A (G.length + 1) c)) v9 (.slice A (G.length + 1) c) L (G ++ [x]) bt bs bk := by
  have hm := h.mid10 hg
  have far : ∀ {g : Nat} {t : TypeId} {cs : Array Value}, Blk W1 g t cs → g < w.heap.size + 1 + 1 + 1 + 1 + 1 → Blk w3 g t cs := fun hb hl => hb.grown hg (own_far h.o10 hl)
  have dd : (Value.slice A (G.length + 1) c).ownBlock = none ∨ (Value.slice A (G.length + 1) c).ownBlock ≠ v9.ownBlock := by
    rcases hob with e | e
    · rw [e]; exact h.d10
    · cases hv : (Value.slice A (G.length + 1) c).ownBlock with
      | none => exact .inl rfl
      | some g => exact .inr (fun e2 => by have := (h.o9.lt g e2.symm).2; rw [hv] at e; simp at e; omega)
  refine ⟨?_, ?_, ?_, dd, hm.1.far (by first | omega | (simp; done) | (simp; omega)) _, ?_, (far h.t (by omega)).far (by first | omega | (simp; done) | (simp; omega)) _, (far h.s (by omega)).far (by first | omega | (simp; done) | (simp; omega)) _, (far h.k (by omega)).far (by first | omega | (simp; done) | (simp; omega)) _, ?_⟩
  · exact ownsRow_setCell_below (h.o9.kept hg h.d9) (a := ⟨w.heap.size + 1 + 1 + 1 + 1, 0, none⟩) (by first | omega | (simp; done) | (simp; omega)) _
  · rw [List.length_append]; exact ownsRow_setCell_below (by simpa [i64s] using ho) (a := ⟨w.heap.size + 1 + 1 + 1 + 1, 0, none⟩) (by first | omega | (simp; done) | (simp; omega)) _
  · cases hv : v9.ownBlock with
    | none => exact .inl rfl
    | some g => exact .inr (fun e => by
        rcases dd with d | d
        · rw [d] at e; cases e
        · exact d (by rw [← e, hv]))
  · have := hm.2.set_ 0 (.slice A (G.length + 1) c); simpa using this
  · exact (h.b.grown hg h.b.size (fun g e => by have := (h.o10.lt g e.symm.symm).1; omega)).setCell (p := ⟨w.heap.size + 1 + 1 + 1 + 1, 0, none⟩) (by first | omega | (simp; done) | (simp; omega)) _
end Go.Proofs.Ytbopeofglhkffaa
