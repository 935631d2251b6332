/- What assign.Kids answers of any node; appending to an empty literal. -/
import Derived.Test.YtbopeofglhkffaaTra
import Derived.Test.YtbopeofglhkffaaSty
import Derived.Test.YtbopeofglhkffaaApp
import Derived.Test.YtbopeofglhkffaaAsf
import Derived.Test.YtbopeofglhkffaaTrh
import Derived.ArgAppend
set_option linter.unusedSimpArgs false
set_option linter.unusedVariables false
namespace Go.Proofs.Ytbopeofglhkffaa
open Go.RowKit
attribute [local go_sem] block_of_add
def kidsK (l : List Nd) (p k : Nat) : List Int := ((List.range k).filter fun j => parF l j == (p : Int)).map Int.ofNat
theorem kidsK_succ (l : List Nd) (p k : Nat) : kidsK l p (k + 1) = if parF l k = (p : Int) then kidsK l p k ++ [(k : Int)] else kidsK l p k := by
  unfold kidsK
  rw [List.range_succ, List.filter_append, List.map_append]
  split
  · rw [List.filter_cons_of_pos (by simpa using ‹parF l k = (p : Int)›)]; rfl
  · rw [List.filter_cons_of_neg (by simpa using ‹¬ parF l k = (p : Int)›)]; simp
theorem kidsK_len (l : List Nd) (p k : Nat) : (kidsK l p k).length ≤ k := by
  unfold kidsK; rw [List.length_map]; have := List.length_filter_le (fun j => parF l j == (p : Int)) (List.range k); rw [List.length_range] at this; exact this
theorem kids_len (l : List Nd) (p : Nat) : (kidsF l p).length ≤ l.length := kidsK_len l p l.length
theorem el_kid : El Try.prog 34 36 (.slice none 0 0) 1 24 := ⟨Try.underlying34, by kernel_rfl, rfl, by decide⟩
def nilRows (n : Nat) : Array Value := (List.replicate n (Value.slice none 0 0)).toArray
theorem made_rows (n : Nat) : madeCells (Value.slice none 0 0).cells (n * 1) = nilRows n := by
  apply Array.toList_inj.1
  rw [Nat.mul_one]
  show (madeCells #[.slice none 0 0] n).toList = _
  rw [toList_madeCells_one]; simp [nilRows]
theorem make_rows (l : Nat) (hc : l ≤ 1000000) (w : World) : (Instr.makeSlice 34 (.int .i64 (l : Int)) (.int .i64 (l : Int))).run Try.prog w = .ok (.slice (some ⟨w.heap.size, 0, none⟩) l l) (w.alloc (.cells (nilRows l) 36)) := by
  obtain ⟨i, hi, hz, hs, hb⟩ := info_parts el_kid.info
  have h := run_makeSlice (P := Try.prog) (w := w) 34 36 i (.slice none 0 0) el_kid.ht hi hz .i64 .i64 (l : Int) (l : Int) (by omega) (by omega) (by rw [hs]; omega) (by rw [hb]; omega) (by omega)
  rw [h, hs, Int.toNat_natCast, made_rows]
/-- The rows of children up to k, each in a block of its own. -/
structure KInv (l : List Nd) (base k : Nat) (vs : List Value) (w : World) : Prop where
  len : vs.length = l.length
  own : ∀ p (h : p < vs.length), w.ownsRow base 3 1 vs[p] (kidsK l p k).length (i64s (kidsK l p k))
  ne : ∀ p q (hp : p < vs.length) (hq : q < vs.length), p ≠ q → vs[p].ownBlock = none ∨ vs[p].ownBlock ≠ vs[q].ownBlock
theorem KInv.start (l : List Nd) (base : Nat) (w : World) : KInv l base 0 (List.replicate l.length (.slice none 0 0)) w :=
  ⟨by simp, fun p h => by rw [List.getElem_replicate]; exact ⟨rfl, .inl ⟨rfl, rfl⟩⟩, fun p q hp hq _ => by rw [List.getElem_replicate]; exact .inl rfl⟩
theorem KInv.kept {l : List Nd} {base k : Nat} {vs : List Value} {w w' : World} (h : KInv l base k vs w) (hb : Below w.heap.size w w') : KInv l base k vs w' := ⟨h.len, fun p hp => own_below (h.own p hp) hb, h.ne⟩
theorem KInv.skip {l : List Nd} {base k : Nat} {vs : List Value} {w : World} (h : KInv l base k vs w) (hk : parF l k < 0) : KInv l base (k + 1) vs w :=
  ⟨h.len, fun p hp => by rw [kidsK_succ, if_neg (by omega)]; exact h.own p hp, h.ne⟩
theorem KInv.step {l : List Nd} {base k q : Nat} {vs : List Value} {w w1 : World} (h : KInv l base k vs w) (hq : q < vs.length) (hk : parF l k = (q : Int)) {nv : Value}
    (hown : w1.ownsRow base 3 1 nv ((kidsK l q k).length + 1) (i64s (kidsK l q k) ++ [.int .i64 (k : Int)])) (hg : w.grownBy w1 vs[q].ownBlock) (hob : nv.ownBlock = vs[q].ownBlock ∨ w.heap.size ≤ (nv.ownBlock).getD w.heap.size) {g : Nat} (hgb : g < base) (i : Nat) (u : Value) :
    KInv l base (k + 1) (vs.set q nv) (w1.setCell ⟨g, i, none⟩ u) := by
  refine ⟨by rw [List.length_set]; exact h.len, fun p hp => ?_, fun p r hp hr hne => ?_⟩
  · rw [List.length_set] at hp
    refine ownsRow_setCell_below ?_ (a := ⟨g, i, none⟩) hgb u
    rw [List.getElem_set, kidsK_succ]
    by_cases hpq : q = p
    · subst hpq
      rw [if_pos rfl, if_pos hk]
      simpa [i64s] using hown
    · rw [if_neg hpq, if_neg (by rw [hk]; omega)]
      exact (h.own p hp).kept hg (h.ne p q hp hq (fun e => hpq e.symm))
  · rw [List.length_set] at hp hr
    rw [List.getElem_set, List.getElem_set]
    have lt : ∀ p (hp : p < vs.length) (b : Nat), vs[p].ownBlock = some b → b < w.heap.size := fun p hp b e => ((h.own p hp).lt b e).2
    by_cases h1 : q = p
    · subst h1
      rw [if_pos rfl, if_neg hne]
      rcases hob with hob | hob
      · rw [hob]; exact h.ne q r hp hr hne
      · cases hn : nv.ownBlock with
        | none => exact .inl rfl
        | some b =>
          refine .inr fun e => ?_
          have := lt r hr b e.symm
          rw [hn] at hob; simp at hob; omega
    · rw [if_neg h1]
      by_cases h2 : q = r
      · subst h2
        rw [if_pos rfl]
        rcases hob with hob | hob
        · rw [hob]; exact h.ne p q hp hr hne
        · cases hn : vs[p].ownBlock with
          | none => exact .inl rfl
          | some b =>
            refine .inr fun e => ?_
            have := lt p hp b hn
            rw [← e] at hob; simp at hob; omega
      · rw [if_neg h2]; exact h.ne p r hp hr hne
/-- The children of all nodes, as a slice of slices. -/
structure KidsAt (w : World) (lo B g : Nat) (l : List Nd) : Prop where
  lt : g < B
  ge : lo ≤ g
  at_ : ∀ p, p < l.length → ∃ A c, w.cell? ⟨g, p, none⟩ = some (.slice A (kidsF l p).length c) ∧ (kidsF l p).length ≤ c ∧ Reads w B 1 A (kidsF l p).length (i64s (kidsF l p)) ∧ ∀ ad, A = some ad → lo ≤ ad.block
theorem KidsAt.below {w w' : World} {lo B g : Nat} {l : List Nd} (h : KidsAt w lo B g l) (hb : Below B w w') : KidsAt w' lo B g l :=
  ⟨h.lt, h.ge, fun p hp => by
    obtain ⟨A, c, h1, h2, h3, h4⟩ := h.at_ p hp
    exact ⟨A, c, (hb.cell (p := ⟨g, p, none⟩) h.lt).trans h1, h2, h3.below hb, h4⟩⟩
theorem KidsAt.more {w : World} {lo B B' g : Nat} {l : List Nd} (h : KidsAt w lo B g l) (hb : B ≤ B') : KidsAt w lo B' g l :=
  ⟨Nat.lt_of_lt_of_le h.lt hb, h.ge, fun p hp => by
    obtain ⟨A, c, h1, h2, h3, h4⟩ := h.at_ p hp
    exact ⟨A, c, h1, h2, h3.more hb, h4⟩⟩
theorem cell_low {w : World} {lo : Nat} {p q : Addr} (hp : p.block < lo) (hq : lo ≤ q.block) (u : Value) : (w.setCell p u).cell? q = w.cell? q :=
  World.cell?_of_block (Below.heap_setCell w p u q.block (by omega))
theorem KidsAt.set_ {w : World} {lo B g : Nat} {l : List Nd} (h : KidsAt w lo B g l) {p : Addr} (hp : p.block < lo) (u : Value) : KidsAt (w.setCell p u) lo B g l :=
  ⟨h.lt, h.ge, fun q hq => by
    obtain ⟨A, c, h1, h2, h3, h4⟩ := h.at_ q hq
    refine ⟨A, c, (cell_low hp h.ge u).trans h1, h2, ⟨h3.1, fun h0 => ?_⟩, h4⟩
    obtain ⟨ad, e, hlt, hc⟩ := h3.2 h0
    exact ⟨ad, e, hlt, fun j x hx => (cell_low hp (by rw [block_of_add]; exact h4 ad e) u).trans (hc j x hx)⟩⟩
theorem KInv.fin {l : List Nd} {base g lo : Nat} {vs : List Value} {w : World} (h : KInv l base l.length vs w) (hb : Blk w g 36 vs.toArray) (h1 : lo ≤ base) (h2 : lo ≤ g) : KidsAt w lo w.heap.size g l :=
  ⟨hb.lt, h2, fun p hp => by
    have hv : p < vs.length := by rw [h.len]; exact hp
    obtain ⟨A, c, e⟩ := own_form (h.own p hv)
    have ho := h.own p hv
    rw [e] at ho
    exact ⟨A, c, by rw [hb.cell, List.getElem?_toArray, List.getElem?_eq_getElem hv, e]; rfl, own_cap ho, Reads.of_own ho, fun ad hA => Nat.le_trans h1 (ho.lt ad.block (by rw [hA]; rfl)).1⟩⟩
structure KidsAns (l : List Nd) (w w' : World) (e : Ending) : Prop where
  ex : ∃ g, e = .returned (.slice (some ⟨g, 0, none⟩) l.length l.length) ∧ KidsAt w' w.heap.size w'.heap.size g l
  b : Below w.heap.size w w'
section
variable (l : List Nd) (A A2 : Option Addr) (c m c2 : Nat) (view : Int) (w : World)
set_option maxRecDepth 100000 in
set_option maxHeartbeats 1000000 in
theorem kids_any (hn : l.length ≤ 65536) (hr : Reads w w.heap.size 44 A l.length (ndsCells l)) :
    Calls Try.prog 10 #[.agg #[.slice A l.length c, .slice A2 m c2, .int .i64 view]] w fun e w' => KidsAns l w w' e := by
  have HB0 : Hid (Blk (w.alloc (.cells #[.slice A l.length c, .slice A2 m c2, .int .i64 view] 25)) w.heap.size 25 #[.slice A l.length c, .slice A2 m c2, .int .i64 view]) := Lib.hid (Blk.new _ _ _)
  have HB1 : Hid (Below w.heap.size w (w.alloc (.cells #[.slice A l.length c, .slice A2 m c2, .int .i64 view] 25))) := Lib.hid ((Below.refl _ _).alloc (Nat.le_refl _) _)
  have HP := Lib.hid (fun W (i : Nat) (hi : i < l.length) (hb : Below w.heap.size w W) => parent_any l A A2 c m c2 view W i hi (by omega) ((hr.below hb).more hb.size))
  have HN := Lib.hid hn
  have hmk : ∀ W : World, (Instr.makeSlice 34 (.int .i64 (l.length : Int)) (.int .i64 (l.length : Int))).run Try.prog W = .ok (.slice (some ⟨W.heap.size, 0, none⟩) l.length l.length) (W.alloc (.cells (nilRows l.length) 36)) := fun W => make_rows l.length (by omega) W
  clear hr hn
  go_enter Try.func10, Try.ntmps10
  go_wp2_with fail
  go_loopw [4] (fun iv wr => ∃ k : Nat, k ≤ l.length ∧ iv = .int .i64 k ∧ Hid (∃ vs, KInv l (w.heap.size + 2) k vs wr ∧ Below w.heap.size w wr ∧ Blk wr w.heap.size 25 #[.slice A l.length c, .slice A2 m c2, .int .i64 view] ∧ Blk wr (w.heap.size + 1) 36 vs.toArray)) (fun iv _ => l.length - (intOf iv).toNat)
  case atStart => exact ⟨0, by omega, rfl, Lib.hid ⟨_, KInv.start l _ _, HB1.out.alloc (by simp) _, HB0.out.alloc _, Blk.at_ _ _ _ (by simp)⟩⟩
  case round =>
    obtain ⟨k, hk, rfl, H⟩ := hrel
    obtain ⟨vs, hvs⟩ := H.out
    have HV := Lib.hid hvs
    clear hvs
    have bt := HV.out.2.2.1.c3
    by_cases hlt : k < l.length
    · have d0 : decide ((k : Int) < (l.length : Int)) = true := decide_eq_true (by omega)
      have d0' : decide (k < l.length) = true := decide_eq_true hlt
      have hwk : IntKind.i64.wrap ((k : Int) + 1) = (k : Int) + 1 := IntWalk.i64_in _ ⟨by omega, by have := HN.out; omega⟩
      go_wp2_with fail
      refine (HP.out _ k hlt HV.out.2.1).mono ?_
      rintro e w1 ⟨rfl, rfl⟩
      have hp := parF_lt l k
      obtain ⟨P, hP⟩ : ∃ P, P = parF l k := ⟨_, rfl⟩
      rw [← hP] at hp
      rw [← hP]
      have HPP := Lib.hid hP
      clear hP
      by_cases h0 : 0 ≤ P
      · obtain ⟨q, rfl⟩ := Int.eq_ofNat_of_zero_le h0
        have e0 : decide ((0 : Int) ≤ (q : Int)) = true := decide_eq_true h0
        have e1 : decide ((q : Int) < (l.length : Int)) = true := decide_eq_true (by omega)
        have hqv : q < vs.length := by rw [HV.out.1.len]; omega
        have HQ := Lib.hid hqv
        have ho := HV.out.1.own q hqv
        obtain ⟨Aq, cq, hq⟩ := own_form ho
        have cv : wr.cell? ⟨w.heap.size + 1, q, none⟩ = some (.slice Aq (kidsK l q k).length cq) := by rw [HV.out.2.2.2.cell, List.getElem?_toArray, List.getElem?_eq_getElem hqv, hq]
        rw [hq] at ho
        have hkl := kidsK_len l q k
        have hz : w.heap.size + 2 ≤ wr.heap.size := by have := HV.out.2.2.2.lt; omega
        have HST := Lib.hid (fun (nv : Value) (W1 : World) => (HV.out.1.kept ((Below.refl _ _).alloc (Nat.le_refl _) (.cells #[.slice A l.length c, .slice A2 m c2, .int .i64 view] 25))).step hqv HPP.out.symm (nv := nv) (w1 := W1) (g := w.heap.size + 1))
        rw [hq] at HST
        have HO := Lib.hid (ho.alloc (.cells #[.slice A l.length c, .slice A2 m c2, .int .i64 view] 25))
        have HSZ : Hid (w.heap.size + 2 ≤ (wr.alloc (.cells #[.slice A l.length c, .slice A2 m c2, .int .i64 view] 25)).heap.size) := Lib.hid (by simp; omega)
        have hz2 : w.heap.size + 1 < wr.heap.size := by omega
        have hz3 : w.heap.size + 1 < wr.heap.size + 1 := by omega
        clear ho hq hqv
        have hk9 : (kidsK l q k).length + 1 ≤ 4294967296 := by have := HN.out; omega
        have hgz : wr.heap.size + 1 = (wr.alloc (.cells #[.slice A l.length c, .slice A2 m c2, .int .i64 view] 25)).heap.size := by simp
        have HGZ := Lib.hid hgz
        clear hgz
        have BW : Hid (Blk (wr.alloc (.cells #[.slice A l.length c, .slice A2 m c2, .int .i64 view] 25)) w.heap.size 25 #[.slice A l.length c, .slice A2 m c2, .int .i64 view] ∧ Blk (wr.alloc (.cells #[.slice A l.length c, .slice A2 m c2, .int .i64 view] 25)) (w.heap.size + 1) 36 vs.toArray ∧ Below w.heap.size w (wr.alloc (.cells #[.slice A l.length c, .slice A2 m c2, .int .i64 view] 25))) := Lib.hid ⟨HV.out.2.2.1.alloc _, HV.out.2.2.2.alloc _, HV.out.2.1.alloc HV.out.2.1.size _⟩
        go_wp2_with (at_builtin; refine wpList_appG (m := 1) rfl _ _ rfl el_int2 HO.out HSZ.out rfl [.int .i64 (k : Int)] rfl HGZ.out rfl (by simp [Value.oneCell']) hk9 (by omega) ?_; intro A' c' w1 hown hB hg hob; have bo := hg.block; have b1 := BW.out.2.1.grown hg (own_far HO.out (by omega)); have f1 := b1.frozen q; have v1 := b1.get q (v := .slice Aq (kidsK l q k).length cq) (by rw [← BW.out.2.1.cell]; exact (World.cell?_alloc_lt _ _ _ (by simp; omega)).trans cv); have HOW := Lib.hid hown; have HBB := Lib.hid hB; have HG := Lib.hid hg; have HOB := Lib.hid hob; have HB1 := Lib.hid b1; clear hown hB hg hob b1 bo)
        go_roundw
        case rel => exact ⟨k + 1, by omega, by go_num, Lib.hid ⟨_, HST.out _ _ HOW.out HG.out HOB.out (by omega) q _, (HBB.out _ _ (by omega) BW.out.2.2).setCell (p := ⟨w.heap.size + 1, q, none⟩) (by simp) _, (BW.out.1.grown HG.out (own_far HO.out (by omega))).far (by simp) _, by have := HB1.out.set_ q (.slice A' ((kidsK l q k).length + 1) c'); simpa using this⟩⟩
        case measure => simp [intOf]; omega
      · have e0 : decide ((0 : Int) ≤ P) = false := decide_eq_false h0
        have HK := Lib.hid (show parF l k < 0 by have := HPP.out; omega)
        go_wp2_with fail
        go_roundw
        case rel => exact ⟨k + 1, by omega, by go_num, Lib.hid ⟨vs, (HV.out.1.kept ((Below.refl _ _).alloc (Nat.le_refl _) _)).skip HK.out, HV.out.2.1.alloc HV.out.2.1.size _, HV.out.2.2.1.alloc _, HV.out.2.2.2.alloc _⟩⟩
        case measure => simp [intOf]; omega
    · have d0 : decide ((k : Int) < (l.length : Int)) = false := decide_eq_false (by omega)
      have d0' : decide (k < l.length) = false := decide_eq_false hlt
      have HL := Lib.hid (show k = l.length by omega)
      go_wp2_with fail
      go_ret
      exact ⟨⟨_, rfl, KInv.fin (by have := HV.out.1; rw [HL.out] at this; exact this) HV.out.2.2.2 (by omega) (by omega)⟩, HV.out.2.1⟩
end
end Go.Proofs.Ytbopeofglhkffaa
namespace Go.Proofs.Ytbopeofglhkffaa
open Go.RowKit
theorem gAt_all {got : List Cn} {n : Nat} (h : got.length ≤ n) : gAt (allF got n) = gAt got := by
  funext k
  by_cases hk : k < n
  · have e := allF_at got n k (by rw [allF_len]; exact hk)
    rw [← e]
    unfold gAt
    rw [List.getElem?_eq_getElem (by rw [allF_len]; exact hk)]; rfl
  · unfold gAt
    rw [List.getElem?_eq_none (by rw [allF_len]; omega), List.getElem?_eq_none (by omega)]
theorem mainsM_all (s : Sty) (c : Int) (l : List Sty) {got : List Cn} {n : Nat} (h : got.length ≤ n) : mainsM s c l (allF got n) = mainsM s c l got := by
  have e : itM l c (allF got n) = itM l c got := by funext k; unfold itM; rw [gAt_all h]
  unfold mainsM; rw [e]
/-- What assign.Kids answers. -/
structure KA (n : Nat) (pU : Nat → Int × Int × Int) (pB : Nat → Bool) (w w' : World) (e : Ending) : Prop where
  ex : ∃ gu gb, e = .returned (.tuple #[.slice (some ⟨gu, 0, none⟩) n n, .slice (some ⟨gb, 0, none⟩) n n]) ∧ Blk w' gu 27 (triC pU n).toArray ∧ Blk w' gb 4 (booC pB n).toArray
  b : Below w.heap.size w w'
theorem lim_w2 {s : Sty} (h : StyR s) : StW s := by
  have key := h.lim
  exact ⟨⟨(key _ (by simp)).1, (key _ (by simp)).2⟩, ⟨(key _ (by simp)).1, (key _ (by simp)).2⟩, ⟨(key _ (by simp)).1, (key _ (by simp)).2⟩, ⟨(key _ (by simp)).1, (key _ (by simp)).2⟩, ⟨(key _ (by simp)).1, (key _ (by simp)).2⟩, h.b⟩
theorem lim_x {s : Sty} (h : StyR s) (hk : s.kind ≠ 3) : StX s := by
  have key := h.lim
  exact ⟨⟨⟨(key _ (by simp)).1, (key _ (by simp)).2⟩, ⟨(key _ (by simp)).1, (key _ (by simp)).2⟩, ⟨(key _ (by simp)).1, (key _ (by simp)).2⟩, ⟨(key _ (by simp)).1, (key _ (by simp)).2⟩, ⟨(key _ (by simp)).1, (key _ (by simp)).2⟩, ⟨(key _ (by simp)).1, (key _ (by simp)).2⟩, h.b⟩, (h.gr hk).1, (h.gr hk).2⟩
theorem kid_of {l : List Nd} {i : Nat} {k : Int} (hk : k ∈ kidsF l i) : ∃ q : Nat, ∃ hq : q < l.length, k = q ∧ sD l k = l[q].s ∧ parF l q = i ∧ i < q := by
  obtain ⟨q, rfl, h1, h2, h3⟩ := kids_mem hk
  exact ⟨q, h1, rfl, by unfold sD; rw [Int.toNat_natCast, List.getElem?_eq_getElem h1]; rfl, h2, h3⟩
theorem kidsF_len (l : List Nd) (i : Nat) : (kidsF l i).length ≤ l.length := by
  unfold kidsF
  rw [List.length_map]
  exact Nat.le_trans (List.length_filter_le _ _) (by rw [List.length_range]; exact Nat.le_refl _)
theorem flex_kid {l : List Nd} {adv : List Int} {vw : Int} (hok : SmallOk l adv vw) {i : Nat} (hi : i < l.length) (hk2 : l[i].s.kind = 2) {k : Int} (hk : k ∈ kidsF l i) : (sD l k).kind ≠ 3 ∧ (sD l k).float = 0 ∧ StX (sD l k) := by
  obtain ⟨q, hq, _, e, hp, hlt⟩ := kid_of hk
  have hpar : l[q].parent = i := by
    unfold parF at hp
    rw [List.getElem?_eq_getElem hq] at hp
    simp only [] at hp
    split at hp
    · exact hp
    · omega
  have h3 := ((hok.ok.nd q hq).up i (by omega) hpar l[i] (List.getElem?_eq_getElem hi)).2.1 hk2
  rw [e]
  exact ⟨h3.1, h3.2.1, lim_x (hok.ok.nd q hq).sty h3.1⟩
/-! append(E{}, l...): the literal's block says nothing. -/
section
variable {P : Program} {w : World} {o : Oper} {a : Act} {t e : TypeId} {z : Value} {size bytes m : Nat}
end
end Go.Proofs.Ytbopeofglhkffaa
