/- slices.Sort of numbers: the shelf's contract, laid by names. -/
import Derived.Test.YtjhfcpadnofdnaaGreatTrc
import Derived.Test.YtjhfcpadnofdnaaGreatCpl
import Derived.Test.YtjhfcpadnofdnaaGreatIns
import Derived.Test.YtjhfcpadnofdnaaGreatProg
import Derived.Test.YtjhfcpadnofdnaaGreatBase
import Derived.Shelf.Sort.Plain
import Derived.Sort.OwnSortedInts
set_option linter.unusedSimpArgs false
set_option linter.unusedVariables false
namespace Go.Proofs.YtjhfcpadnofdnaaGreat
/-- A tree whose nodes stand in order. -/
structure TrO (l : List Nd) : Prop where
  lt : ∀ j, 0 < j → j < l.length → Pl l j < j
  or : ∀ j, 0 < j → j < l.length → Pl l j = j - 1 ∨ isAnc (Pl l) (Pl l j) (j - 1) = true
  k3 : ∀ j, 0 < j → j < l.length → K3l l (Pl l j) = false
  par : ∀ j (h : j < l.length), 0 < j → l[j].parent = (Pl l j : Int)
  rt0 : 0 < l.length → rootX l 0 = true
theorem pl_par {l : List Nd} {j : Nat} (h : j < l.length) : Pl l j = (l[j].parent).toNat := by unfold Pl; rw [List.getElem?_eq_getElem h]; rfl
theorem k3_at {l : List Nd} {j : Nat} (h : j < l.length) : K3l l j = (l[j].s.kind == 3) := by unfold K3l; rw [List.getElem?_eq_getElem h]; rfl
theorem anc_isAnc {l : List Nd} (ho : ∀ (j : Nat) (h : j < l.length), ParOk l j l[j].parent) : ∀ (j : Nat), j < l.length → ∀ x : Int, x ∈ anc l j → isAnc (Pl l) x.toNat j = true := by
  have hP : ∀ j, 0 < j → j < l.length → Pl l j < j := fun j h0 hj => by
    obtain ⟨p, h1, h2, _⟩ := par_of hj h0 (ho j hj)
    rw [pl_par hj, h1]; omega
  intro j
  induction j using Nat.strongRecOn with
  | ind j ih =>
    intro hj x hx
    by_cases h0 : j = 0
    · subst h0
      have := parF_lt l 0
      rw [anc_none (by omega)] at hx; cases hx
    · obtain ⟨p, h1, h2, h3, _⟩ := par_of hj (by omega) (ho j hj)
      have hp : Pl l j = p := by rw [pl_par hj, h1]; omega
      rw [anc_some h3] at hx
      rw [isAnc_step hP (by omega) hj, hp, Bool.or_eq_true]
      rcases List.mem_cons.1 hx with h | h
      · left; rw [h]; simp
      · exact .inr (ih p h2 (by omega) x h)
theorem tree_ord {l : List Nd} (hn : ∀ (i : Nat) (h : i < l.length), NdE l i l[i]) : TrO l := by
  have ho : ∀ (j : Nat) (h : j < l.length), ParOk l j l[j].parent := fun j h => (hn j h).par
  have hpf : ∀ j, 0 < j → ∀ (hj : j < l.length), ∃ p : Nat, l[j].parent = p ∧ p < j ∧ Pl l j = p ∧ (p : Int) ∈ stF l (j - 1) := fun j h0 hj => by
    obtain ⟨p, h1, h2, _, h4⟩ := par_of hj h0 (ho j hj)
    exact ⟨p, h1, h2, by rw [pl_par hj, h1]; omega, h4⟩
  refine ⟨fun j h0 hj => ?_, fun j h0 hj => ?_, fun j h0 hj => ?_, fun j hj h0 => ?_, fun h => ?_⟩
  · obtain ⟨p, h1, h2, h3, _⟩ := hpf j h0 hj; omega
  · obtain ⟨p, h1, h2, h3, h4⟩ := hpf j h0 hj
    rw [h3]
    rcases List.mem_cons.1 h4 with h | h
    · left; omega
    · right
      have := anc_isAnc ho (j - 1) (by omega) _ h
      simpa using this
  · obtain ⟨p, h1, h2, h3, h4⟩ := hpf j h0 hj
    rw [h3, k3_at (show p < l.length by omega)]
    have := ((hn j hj).up p h0 h1 l[p] (List.getElem?_eq_getElem (by omega))).1
    simpa using this
  · obtain ⟨p, h1, h2, h3, _⟩ := hpf j h0 hj
    rw [h1, h3]
  · unfold rootX
    rw [List.getElem?_eq_getElem h]
    have := (hn 0 h).top rfl
    simp [this.1]
section
variable {l : List Nd} (ht : TrO l)
include ht
/-- What is read of r. -/
theorem sub_end {r e : Nat} (hr : r < e) (he : e ≤ l.length) (h1 : ∀ m, r < m → m < e → isAnc (Pl l) r m = true) (h2 : e < l.length → isAnc (Pl l) r e = false) {m : Nat} (hm : m < l.length) (h : isAnc (Pl l) r m = true) : m < e := by
  rcases Nat.lt_or_ge m e with h' | h'
  · exact h'
  · exfalso
    have := isAnc_between ht.lt ht.or (m - e) m e (by omega) hm h hr
    rw [h2 (by omega)] at this; cases this
theorem par_in {r m : Nat} (h0 : 0 < m) (hm : m < l.length) (h : isAnc (Pl l) r m = true) : r ≤ Pl l m := by
  rw [isAnc_step ht.lt h0 hm, Bool.or_eq_true] at h
  rcases h with h | h
  · have := beq_iff_eq.1 h; omega
  · have := isAnc_lt ht.lt (Pl l m) (by have := ht.lt m h0 hm; omega) h; omega
theorem par_out {r e : Nat} (hr : r < e) (he : e < l.length) (h1 : ∀ m, r < m → m < e → isAnc (Pl l) r m = true) (h2 : isAnc (Pl l) r e = false) : Pl l e < r := by
  rcases Nat.lt_or_ge (Pl l e) r with h | h
  · exact h
  · exfalso
    have hlt := ht.lt e (by omega) he
    have : isAnc (Pl l) r e = true := by
      rw [isAnc_step ht.lt (by omega) he, Bool.or_eq_true]
      rcases Nat.eq_or_lt_of_le h with h | h
      · left; simp [h]
      · exact .inr (h1 _ h hlt)
    rw [h2] at this; cases this
end
/-- The nodes that are read of the island of r. -/
def rdF (l : List Nd) (r : Nat) : List Nat := (List.range l.length).filter fun x => x == r || pth (Pl l) (K3l l) (rootX l) r x
theorem rdF_mem {l : List Nd} {r x : Nat} : x ∈ rdF l r ↔ x < l.length ∧ (x = r ∨ pth (Pl l) (K3l l) (rootX l) r x = true) := by
  unfold rdF; simp
theorem rdF_sorted (l : List Nd) (r : Nat) : (rdF l r).Pairwise (· < ·) := List.Pairwise.filter _ List.pairwise_lt_range
/-- Does a node's text lie in the island of r? -/
def lieX (l : List Nd) (r j : Nat) : Bool := j == r || (!K3l l j && pth (Pl l) (K3l l) (rootX l) r j && !rootX l j)
/-- The texts that are read, from r on to i. -/
def txF (l : List Nd) (r i : Nat) : List Nat := (List.range' (r + 1) (i - (r + 1))).filter fun x => K3l l x && lieX l r (Pl l x)
theorem txF_succ (l : List Nd) {r i : Nat} (h : r < i) : txF l r (i + 1) = txF l r i ++ (if (K3l l i && lieX l r (Pl l i)) = true then [i] else []) := by
  unfold txF
  have : i + 1 - (r + 1) = (i - (r + 1)) + 1 := by omega
  rw [this, List.range'_concat, List.filter_append]
  congr 1
  have h2 : r + 1 + 1 * (i - (r + 1)) = i := by omega
  rw [h2]
  simp [List.filter_cons]
section
variable {l : List Nd} (ht : TrO l)
include ht
theorem tx_pth {r x : Nat} (h0 : r < x) (hx : x < l.length) : (lieX l r (Pl l x)) = pth (Pl l) (K3l l) (rootX l) r x := by
  rw [pth_step ht.lt (by omega) hx]
  unfold lieX
  by_cases h : Pl l x = r
  · simp [h]
  · have : (Pl l x == r) = false := beq_eq_false_iff_ne.2 h
    rw [this, Bool.false_or, Bool.false_or]
    cases K3l l (Pl l x) <;> cases rootX l (Pl l x) <;> cases pth (Pl l) (K3l l) (rootX l) r (Pl l x) <;> rfl
/-- All that is laid down is what is read, each once. -/
theorem rd_perm {r e : Nat} (hr : r < l.length) (hre : r < e) (he : e ≤ l.length) (h1 : ∀ m, r < m → m < e → isAnc (Pl l) r m = true) (h2 : e < l.length → isAnc (Pl l) r e = false) :
    (r :: ((List.range' (r + 1) (e - (r + 1))).filter (takeG (Pl l) (K3l l) (rootX l) true r)) ++ txF l r e).Perm (rdF l r) := by
  have hnd : ∀ p : Nat → Bool, ((List.range' (r + 1) (e - (r + 1))).filter p).Nodup := fun p => List.Pairwise.filter _ (List.nodup_range')
  refine (List.perm_ext_iff_of_nodup ?_ (List.Pairwise.imp (fun h => Nat.ne_of_lt h) (rdF_sorted l r))).2 fun x => ?_
  · rw [List.cons_append, List.nodup_cons]
    refine ⟨fun h => ?_, ?_⟩
    · rcases List.mem_append.1 h with h | h
      · have := (List.mem_filter.1 h).1; rw [List.mem_range'_1] at this; omega
      · have := (List.mem_filter.1 h).1; rw [List.mem_range'_1] at this; omega
    · refine List.nodup_append.2 ⟨hnd _, hnd _, fun a ha b hb e => ?_⟩
      subst e
      have a1 := (List.mem_filter.1 ha).2
      have b1 := (List.mem_filter.1 hb).2
      unfold takeG at a1
      simp only [Bool.true_and, Bool.and_eq_true, Bool.not_eq_true'] at a1 b1
      rw [a1.1] at b1; cases b1.1
  · rw [List.cons_append, List.mem_cons, List.mem_append, rdF_mem]
    unfold txF takeG
    simp only [List.mem_filter, List.mem_range'_1, Bool.true_and, Bool.and_eq_true, Bool.not_eq_true']
    constructor
    · rintro (h | h | h)
      · subst h; exact ⟨hr, .inl rfl⟩
      · exact ⟨by omega, .inr h.2.2⟩
      · refine ⟨by omega, .inr ?_⟩
        rw [← tx_pth ht (show r < x by omega) (by omega)]; exact h.2.2
    · rintro ⟨hx, h | h⟩
      · exact .inl h
      · have hlt := pth_lt ht.lt hx h
        have hxe := sub_end ht hre he h1 h2 hx (pth_anc ht.lt x hx h)
        right
        cases hk : K3l l x
        · exact .inl ⟨by omega, rfl, h⟩
        · exact .inr ⟨by omega, rfl, by rw [tx_pth ht hlt hx]; exact h⟩
end
theorem sort_rd {xs : List Nat} {l : List Nd} {r : Nat} (h : xs.Perm (rdF l r)) : ((xs.map (fun (i : Nat) => (i : Int))).mergeSort fun x y => decide (x ≤ y)) = (rdF l r).map fun (i : Nat) => (i : Int) := by
  have hp : ((xs.map (fun (i : Nat) => (i : Int))).mergeSort fun x y => decide (x ≤ y)).Perm ((rdF l r).map fun (i : Nat) => (i : Int)) := (List.mergeSort_perm _ _).trans (h.map _)
  have h1 : ((xs.map (fun (i : Nat) => (i : Int))).mergeSort fun x y => decide (x ≤ y)).Pairwise (fun a b => a ≤ b) := by
    have := List.pairwise_mergeSort (le := fun x y : Int => decide (x ≤ y)) (fun a b c h1 h2 => by simp at *; omega) (fun a b => by simp; omega) (xs.map (fun (i : Nat) => (i : Int)))
    exact this.imp (fun h => by simpa using h)
  have h2 : ((rdF l r).map fun (i : Nat) => (i : Int)).Pairwise (fun a b => a ≤ b) := by
    rw [List.pairwise_map]
    exact (rdF_sorted l r).imp (fun h => by omega)
  exact hp.eq_of_pairwise (fun a b _ _ h1 h2 => by omega) h1 h2
end Go.Proofs.YtjhfcpadnofdnaaGreat
namespace Go.Proofs.YtjhfcpadnofdnaaGreat
open Go.RowKit
/-- The shelf's numbers here. -/
def srtRen : Go.Shelf.Ren where
  f := fun
    | 125 => 121
    | 128 => 201
    | 129 => 202
    | 189 => 64
    | 215 => 280
    | 216 => 198
    | 257 => 120
    | 294 => 192
    | 295 => 193
    | 296 => 194
    | 297 => 195
    | 298 => 196
    | 299 => 197
    | 300 => 199
    | 301 => 200
    | 328 => 275
    | 329 => 276
    | 330 => 277
    | 331 => 278
    | 332 => 279
    | 343 => 315
    | _ => 0
  t := fun
    | 0 => 0
    | 3 => 3
    | 4 => 4
    | 5 => 5
    | 9 => 9
    | 28 => 50
    | 46 => 174
    | 51 => 275
    | 53 => 277
    | 131 => 272
    | 182 => 266
    | 183 => 267
    | 218 => 331
    | 222 => 335
    | 228 => 361
    | 229 => 362
    | _ => 0
  g := fun x => x
theorem srtLays : Go.Proofs.Lays.n189 Tryz.prog srtRen where
  mixed := by kernel_rfl
  f125 := by kernel_rfl
  f128 := by kernel_rfl
  f129 := by kernel_rfl
  f189 := by kernel_rfl
  f215 := by kernel_rfl
  f216 := by kernel_rfl
  f257 := by kernel_rfl
  f294 := by kernel_rfl
  f295 := by kernel_rfl
  f296 := by kernel_rfl
  f297 := by kernel_rfl
  f298 := by kernel_rfl
  f299 := by kernel_rfl
  f300 := by kernel_rfl
  f301 := by kernel_rfl
  f328 := by kernel_rfl
  f329 := by kernel_rfl
  f330 := by kernel_rfl
  f331 := by kernel_rfl
  f332 := by kernel_rfl
  f343 := by kernel_rfl
  t0 := by kernel_rfl
  a0 := fun w => by kernel_rfl
  z0 := fun w => by kernel_rfl
  v0 := fun w => by kernel_rfl
  t3 := by kernel_rfl
  a3 := fun w => by kernel_rfl
  z3 := fun w => by kernel_rfl
  v3 := fun w => by kernel_rfl
  t4 := by kernel_rfl
  a4 := fun w => by kernel_rfl
  z4 := fun w => by kernel_rfl
  v4 := fun w => by kernel_rfl
  t5 := by kernel_rfl
  a5 := fun w => by kernel_rfl
  z5 := fun w => by kernel_rfl
  v5 := fun w => by kernel_rfl
  t9 := by kernel_rfl
  a9 := fun w => by kernel_rfl
  z9 := fun w => by kernel_rfl
  v9 := fun w => by kernel_rfl
  t28 := by kernel_rfl
  a28 := fun w => by kernel_rfl
  z28 := fun w => by kernel_rfl
  v28 := fun w => by kernel_rfl
  t46 := by kernel_rfl
  a46 := fun w => by kernel_rfl
  z46 := fun w => by kernel_rfl
  v46 := fun w => by kernel_rfl
  t51 := by kernel_rfl
  a51 := fun w => by kernel_rfl
  z51 := fun w => by kernel_rfl
  v51 := fun w => by kernel_rfl
  t53 := by kernel_rfl
  a53 := fun w => by kernel_rfl
  z53 := fun w => by kernel_rfl
  v53 := fun w => by kernel_rfl
  t131 := by kernel_rfl
  a131 := fun w => by kernel_rfl
  z131 := fun w => by kernel_rfl
  v131 := fun w => by kernel_rfl
  t182 := by kernel_rfl
  a182 := fun w => by kernel_rfl
  z182 := fun w => by kernel_rfl
  v182 := fun w => by kernel_rfl
  t183 := by kernel_rfl
  a183 := fun w => by kernel_rfl
  z183 := fun w => by kernel_rfl
  v183 := fun w => by kernel_rfl
  t218 := by kernel_rfl
  a218 := fun w => by kernel_rfl
  z218 := fun w => by kernel_rfl
  v218 := fun w => by kernel_rfl
  t222 := by kernel_rfl
  a222 := fun w => by kernel_rfl
  z222 := fun w => by kernel_rfl
  v222 := fun w => by kernel_rfl
  t228 := by kernel_rfl
  a228 := fun w => by kernel_rfl
  z228 := fun w => by kernel_rfl
  v228 := fun w => by kernel_rfl
  t229 := by kernel_rfl
  a229 := fun w => by kernel_rfl
  z229 := fun w => by kernel_rfl
  v229 := fun w => by kernel_rfl
theorem sort_own (base : Nat) (A : Option Addr) (n c : Nat) (zs : List Int) (hn : zs.length = n) (w : World) (hO : w.ownsRow base 3 1 (.slice A n c) n (zs.map (Value.int .i64))) (h0 : 0 < n) (h1 : n ≤ 1000000) :
    Calls Tryz.prog 64 #[.slice A n c] w fun e w' => e = .returned (.tuple #[]) ∧ w'.ownsRow base 3 1 (.slice A n c) n ((zs.mergeSort fun x y => decide (x ≤ y)).map (Value.int .i64)) ∧ w.grownBy w' (Value.slice A n c).ownBlock := by
  subst hn
  rcases hO.2 with ⟨hv, _⟩ | ⟨g, cap, cur, hv, hb, hh, hc, hm, hs, ht⟩
  · injection hv with e1 e2 e3; omega
  · injection hv with e1 e2 e3
    subst e1; subst e3
    rw [Nat.mul_one] at ht
    have hlt : g < w.heap.size := (Array.getElem?_eq_some_iff.1 hh).1
    have key := Go.Proofs.Any.slices_Sort_int srtLays g 0 c zs w (Go.holds_of_blockI hh ht) hlt (by omega)
    refine Calls.mono (show Calls Tryz.prog 64 #[.slice (some ⟨g, 0, none⟩) zs.length c] w _ from key) ?_
    rintro e w' ⟨rfl, m, os, rfl⟩
    exact ⟨rfl, Go.ownsRow_sortedI (by simp) hb hh hc hm (by rw [hs]), Go.grownBy_sortedI _⟩
theorem below_grownS {w w' : World} {v : Value} {base : Nat} {e : TypeId} {size n : Nat} {xs : List Value} (hg : w.grownBy w' v.ownBlock) (ho : w.ownsRow base e size v n xs) {B : Nat} (hB : B ≤ base) (hB2 : B ≤ w.heap.size) : Below B w w' :=
  ⟨hg.os, hg.tape, hg.output, hg.size, fun k hk => hg.block k (by omega) (own_far ho (by omega))⟩
end Go.Proofs.YtjhfcpadnofdnaaGreat
