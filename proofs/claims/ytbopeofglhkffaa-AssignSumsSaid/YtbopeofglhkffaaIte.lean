/- Items of a row: their aims. -/
import Derived.Test.YtbopeofglhkffaaItd
import Derived.Test.YtbopeofglhkffaaWs
set_option linter.unusedSimpArgs false
set_option linter.unusedVariables false
namespace Go.Proofs.Ytbopeofglhkffaa
open Go.RowKit
attribute [local go_sem] block_of_add run_store_hi run_store_lo
/-! Wide numbers in a row. -/
def wideC (p : Nat → Int) (m : Nat) : List Value := (List.range m).flatMap fun i => [hiOf (p i), loOf (p i)]
theorem wideC_succ (p : Nat → Int) (m : Nat) : wideC p (m + 1) = wideC p m ++ [hiOf (p m), loOf (p m)] := by simp [wideC, List.range_succ]
theorem wideC_len (p : Nat → Int) : ∀ m, (wideC p m).length = m * 2
  | 0 => rfl
  | m + 1 => by rw [wideC_succ, List.length_append, wideC_len p m]; simp; omega
theorem wideC_hi (p : Nat → Int) {i : Nat} : ∀ {m : Nat}, i < m → (wideC p m)[i * 2]? = some (hiOf (p i))
  | 0, h => by omega
  | m + 1, h => by
    rw [wideC_succ]
    by_cases e : i = m
    · subst e; rw [List.getElem?_append_right (by rw [wideC_len]; exact Nat.le_refl _), wideC_len, Nat.sub_self]; rfl
    · rw [List.getElem?_append_left (by rw [wideC_len]; omega)]; exact wideC_hi p (by omega)
theorem wideC_lo (p : Nat → Int) {i : Nat} : ∀ {m : Nat}, i < m → (wideC p m)[i * 2 + 1]? = some (loOf (p i))
  | 0, h => by omega
  | m + 1, h => by
    rw [wideC_succ]
    by_cases e : i = m
    · subst e; rw [List.getElem?_append_right (by rw [wideC_len]; omega), wideC_len, show i * 2 + 1 - i * 2 = 1 by omega]; rfl
    · rw [List.getElem?_append_left (by rw [wideC_len]; omega)]; exact wideC_lo p (by omega)
def updP (p : Nat → Int) (i : Nat) (z : Int) : Nat → Int := fun j => if j = i then z else p j
theorem wideC_set (p : Nat → Int) (m i : Nat) (z : Int) (h : i < m) : ((wideC p m).toArray.setIfInBounds (i * 2) (hiOf z)).setIfInBounds (i * 2 + 1) (loOf z) = (wideC (updP p i z) m).toArray := by
  apply Array.ext_getElem?
  intro x
  simp only [Array.getElem?_setIfInBounds, Array.size_setIfInBounds, List.size_toArray, wideC_len, List.getElem?_toArray]
  by_cases hx : x < m * 2
  · obtain ⟨j, r, hr, rfl⟩ : ∃ j r, r < 2 ∧ x = j * 2 + r := ⟨x / 2, x % 2, by omega, by omega⟩
    have hj : j < m := by omega
    rcases (show r = 0 ∨ r = 1 by omega) with rfl | rfl
    · simp only [Nat.add_zero]
      rw [wideC_hi _ hj, wideC_hi _ hj, if_neg (by omega)]
      unfold updP
      by_cases e : j = i
      · subst e; rw [if_pos rfl, if_pos (by omega), if_pos rfl]
      · rw [if_neg (by omega), if_neg e]
    · rw [wideC_lo _ hj, wideC_lo _ hj]
      unfold updP
      by_cases e : j = i
      · subst e; rw [if_pos rfl, if_pos (by omega), if_pos rfl]
      · rw [if_neg (by omega), if_neg (by omega), if_neg e]
  · rw [if_neg (by omega), if_neg (by omega), List.getElem?_eq_none (by rw [wideC_len]; omega), List.getElem?_eq_none (by rw [wideC_len]; omega)]
theorem el_wide : El Try.prog 140 87 (.agg #[.int .i64 0, .int .u64 0]) 2 16 := ⟨Try.underlying140, by kernel_rfl, rfl, by decide⟩
theorem make_wides (n : Nat) (hn : n ≤ 1000000) (w : World) : (Instr.makeSlice 140 (.int .i64 (n : Int)) (.int .i64 (n : Int))).run Try.prog w = .ok (.slice (some ⟨w.heap.size, 0, none⟩) n n) (w.alloc (.cells (wideC (fun _ => 0) n).toArray 87)) := by
  obtain ⟨i, hi, hz, hs, hb⟩ := info_parts el_wide.info
  have h := run_makeSlice (P := Try.prog) (w := w) 140 87 i (.agg #[.int .i64 0, .int .u64 0]) el_wide.ht hi hz .i64 .i64 (n : Int) (n : Int) (by omega) (by omega) (by rw [hs]; omega) (by rw [hb]; omega) (by omega)
  have hm : madeCells (Value.agg #[.int .i64 0, .int .u64 0]).cells (n * 2) = (wideC (fun _ => 0) n).toArray := by
    apply Array.ext_getElem?
    intro x
    by_cases hx : x < n * 2
    · obtain ⟨j, r, hr, rfl⟩ : ∃ j r, r < 2 ∧ x = j * 2 + r := ⟨x / 2, x % 2, by omega, by omega⟩
      have hj : j < n := by omega
      have e : (madeCells (Value.agg #[.int .i64 0, .int .u64 0]).cells (n * 2))[j * 2 + r]? = some ((#[Value.int .i64 0, Value.int .u64 0] : Array Value)[(j * 2 + r) % 2]!) := by
        rw [Array.getElem?_eq_getElem (by rw [size_madeCells]; exact hx)]
        simp only [madeCells, Array.getElem_map, Array.getElem_range]; rfl
      rw [e, List.getElem?_toArray]
      rcases (show r = 0 ∨ r = 1 by omega) with rfl | rfl
      · simp only [Nat.add_zero]
        rw [wideC_hi _ hj, show j * 2 % 2 = 0 by omega]; rfl
      · rw [wideC_lo _ hj, show (j * 2 + 1) % 2 = 1 by omega]; rfl
    · rw [Array.getElem?_eq_none (by rw [size_madeCells]; omega), List.getElem?_toArray, List.getElem?_eq_none (by rw [wideC_len]; omega)]
  rw [h, hs, Int.toNat_natCast, hm]
/-! Plain: the loops. -/
def facK (M : Nat → It) (oth : List Nat) (i : Nat) : Int := ((oth.take i).map fun k => (M k).factor).sum
theorem facK_succ (M : Nat → It) (oth : List Nat) (i : Nat) (h : i < oth.length) : facK M oth (i + 1) = facK M oth i + (M oth[i]).factor := by
  unfold facK; rw [List.take_succ_eq_append_getElem h, List.map_append, List.sum_append]; simp
structure FacB (x : It) : Prop where
  factor : 0 ≤ x.factor ∧ x.factor ≤ 1000000000000000
  base : -10995116277760 ≤ x.base ∧ x.base ≤ 10995116277760
theorem facK_bd (M : Nat → It) (oth : List Nat) (h : ∀ k ∈ oth, FacB (M k)) : ∀ i, i ≤ oth.length → 0 ≤ facK M oth i ∧ facK M oth i ≤ 1000000000000000 * i
  | 0, _ => by simp [facK]
  | i + 1, hi => by
    have ih := facK_bd M oth h i (by omega)
    have hb := (h oth[i] (List.getElem_mem (by omega))).factor
    rw [facK_succ M oth i (by omega)]
    omega
theorem fac_le (M : Nat → It) : ∀ (oth : List Nat), (∀ k ∈ oth, 0 ≤ (M k).factor) → ∀ k ∈ oth, (M k).factor ≤ (oth.map fun k => (M k).factor).sum
  | [], _, k, hk => by simp at hk
  | a :: t, h, k, hk => by
    rw [List.map_cons, List.sum_cons]
    have h0 := h a (by simp)
    have ht : 0 ≤ (t.map fun k => (M k).factor).sum := by
      clear hk
      induction t with
      | nil => simp
      | cons b u ih =>
        rw [List.map_cons, List.sum_cons]
        have := h b (by simp)
        have := ih fun k hk => h k (by simp at hk ⊢; rcases hk with hk | hk <;> simp [hk])
        omega
    rcases List.mem_cons.1 hk with e | e
    · subst e; omega
    · have := fac_le M t (fun k hk => h k (by simp [hk])) k e; omega
def onK (f : Nat → It → It) (M : Nat → It) (oth : List Nat) (i : Nat) : Nat → It := fun k => if k ∈ oth.take i then f k (M k) else M k
theorem onK_zero (f : Nat → It → It) (M : Nat → It) (oth : List Nat) : onK f M oth 0 = M := by funext k; simp [onK]
theorem onK_succ (f : Nat → It → It) (M : Nat → It) (oth : List Nat) (i : Nat) (h : i < oth.length) : onK f M oth (i + 1) = fun k => if k = oth[i] then f k (M k) else onK f M oth i k := by
  funext k
  unfold onK
  have e : k ∈ oth.take (i + 1) ↔ k = oth[i] ∨ k ∈ oth.take i := by
    rw [List.take_succ_eq_append_getElem h, List.mem_append, List.mem_singleton]
    exact Or.comm
  by_cases h1 : k = oth[i]
  · rw [if_pos (e.2 (.inl h1)), if_pos h1]
  · rw [if_neg h1]
    by_cases h2 : k ∈ oth.take i
    · rw [if_pos (e.2 (.inr h2)), if_pos h2]
    · rw [if_neg (fun h3 => (e.1 h3).elim h1 h2), if_neg h2]
theorem onK_at (f : Nat → It → It) (M : Nat → It) {oth : List Nat} (hd : oth.Nodup) {i : Nat} (h : i < oth.length) : onK f M oth i oth[i] = M oth[i] := if_neg (not_mem_take hd h)
theorem onK_all (f : Nat → It → It) (M : Nat → It) (oth : List Nat) : onK f M oth oth.length = fun k => if k ∈ oth then f k (M k) else M k := by
  funext k; unfold onK; rw [List.take_length]
/-- The variables of the first loop. -/
structure A1I (N n : Nat) (B : Nat → Nat) (M : Nat → It) (rest z : Int) (w W : World) : Prop where
  rs : Blk W N 87 #[hiOf rest, loOf rest]
  al : Blk W (N + 1) 87 #[hiOf z, loOf z]
  its : Its n B M W
  k : Kp (isB n B) w W
  lt : ∀ k, k < n → B k < N
  sz : w.heap.size = N
section
variable {N n kk : Nat} {B : Nat → Nat} {M : Nat → It} {y : It} {rest z z2 : Int} {w W W' : World}
theorem A1I.bel (h : A1I N n B M rest z w W) (hb : Below W.heap.size W W') : A1I N n B M rest z w W' :=
  ⟨h.rs.below hb h.rs.lt, h.al.below hb h.al.lt, h.its.bel hb, h.k.trans (Kp.of_below hb _), h.lt, h.sz⟩
theorem A1I.putA (h : A1I N n B M rest z w W) : A1I N n B M rest z2 w ((W.setCell ⟨N + 1, 0, none⟩ (hiOf z2)).setCell ⟨N + 1, 1, none⟩ (loOf z2)) := by
  have hs := h.sz
  refine ⟨(h.rs.far (by show N ≠ N + 1; omega) _).far (by show N ≠ N + 1; omega) _, (h.al.set_ 0 _).set_ 1 _, ⟨fun k hk => ?_, h.its.inj⟩, (h.k.setCell (p := ⟨N + 1, 0, none⟩) (.inr (by show w.heap.size ≤ N + 1; omega)) _).setCell (p := ⟨N + 1, 1, none⟩) (.inr (by show w.heap.size ≤ N + 1; omega)) _, h.lt, h.sz⟩
  have := h.lt k hk
  exact ((h.its.b k hk).far (by show B k ≠ N + 1; omega) _).far (by show B k ≠ N + 1; omega) _
theorem A1I.putI (h : A1I N n B M rest z w W) (hk : kk < n) (i : Nat) (u v : Value) (e : ((itCells (M kk)).toArray.setIfInBounds i u).setIfInBounds (i + 1) v = (itCells y).toArray) : A1I N n B (fun j => if j = kk then y else M j) rest z w ((W.setCell ⟨B kk, i, none⟩ u).setCell ⟨B kk, i + 1, none⟩ v) := by
  have hl := h.lt kk hk
  refine ⟨(h.rs.far (by show N ≠ B kk; omega) _).far (by show N ≠ B kk; omega) _, (h.al.far (by show N + 1 ≠ B kk; omega) _).far (by show N + 1 ≠ B kk; omega) _, h.its.upd hk ((h.its.b kk hk).it_set2 i u v e) (fun j hj hne => ?_), (h.k.setCell (p := ⟨B kk, i, none⟩) (.inl ⟨kk, hk, rfl⟩) _).setCell (p := ⟨B kk, i + 1, none⟩) (.inl ⟨kk, hk, rfl⟩) _, h.lt, h.sz⟩
  have hn : B j ≠ B kk := fun e => hne (h.its.inj j kk hj hk e)
  exact ((h.its.b j hj).far hn _).far hn _
end
theorem minus_0 (b : Int) (w : World) (h : W128 (0 - b)) : Calls Try.prog 60 #[.agg #[.int .i64 0, .int .u64 0], .agg #[hiOf b, loOf b]] w (AnsB (.agg #[hiOf (0 - b), loOf (0 - b)]) w) := minus_b w 0 b h
/-- The variables behind the first loop. -/
structure A2I (N ga n : Nat) (B : Nat → Nat) (M : Nat → It) (rest z amt : Int) (w W : World) : Prop where
  a : A1I N n B M rest z w W
  am : Blk W ga 87 #[hiOf amt, loOf amt]
  o1 : N + 1 < ga
theorem A2I.bel {N ga n : Nat} {B : Nat → Nat} {M : Nat → It} {rest z amt : Int} {w W W' : World} (h : A2I N ga n B M rest z amt w W) (hb : Below W.heap.size W W') : A2I N ga n B M rest z amt w W' := ⟨h.a.bel hb, h.am.below hb h.am.lt, h.o1⟩
theorem A1I.fresh {N n : Nat} {B : Nat → Nat} {M : Nat → It} {rest z : Int} {w W : World} (h : A1I N n B M rest z w W) {g : Nat} (hg : N + 1 < g) (i : Nat) (u : Value) : A1I N n B M rest z w (W.setCell ⟨g, i, none⟩ u) := by
  have hs := h.sz
  refine ⟨h.rs.far (by show N ≠ g; omega) _, h.al.far (by show N + 1 ≠ g; omega) _, ⟨fun k hk => ?_, h.its.inj⟩, h.k.setCell (p := ⟨g, i, none⟩) (.inr (by show w.heap.size ≤ g; omega)) _, h.lt, h.sz⟩
  have := h.lt k hk
  exact (h.its.b k hk).far (by show B k ≠ g; omega) _
/-- Those of the second and the third loop. -/
structure A3I (N ga gl gP n m : Nat) (B : Nat → Nat) (M : Nat → It) (rest z amt lf : Int) (p : Nat → Int) (w W : World) : Prop where
  a : A1I N n B M rest z w W
  am : Blk W ga 87 #[hiOf amt, loOf amt]
  lf : Blk W gl 87 #[hiOf lf, loOf lf]
  pt : Blk W gP 87 (wideC p m).toArray
  o1 : N + 1 < ga
  o2 : ga < gl
  o3 : gl < gP
section
variable {N ga gl gP n m kk : Nat} {B : Nat → Nat} {M : Nat → It} {y : It} {rest z amt lf lf2 : Int} {p : Nat → Int} {w W W' : World}
theorem A3I.bel (h : A3I N ga gl gP n m B M rest z amt lf p w W) (hb : Below W.heap.size W W') : A3I N ga gl gP n m B M rest z amt lf p w W' := ⟨h.a.bel hb, h.am.below hb h.am.lt, h.lf.below hb h.lf.lt, h.pt.below hb h.pt.lt, h.o1, h.o2, h.o3⟩
theorem A3I.putL (h : A3I N ga gl gP n m B M rest z amt lf p w W) : A3I N ga gl gP n m B M rest z amt lf2 p w ((W.setCell ⟨gl, 0, none⟩ (hiOf lf2)).setCell ⟨gl, 1, none⟩ (loOf lf2)) := by
  have o1 := h.o1; have o2 := h.o2; have o3 := h.o3
  exact ⟨(h.a.fresh (by omega) _ _).fresh (by omega) _ _, (h.am.far (by show ga ≠ gl; omega) _).far (by show ga ≠ gl; omega) _, (h.lf.set_ 0 _).set_ 1 _, (h.pt.far (by show gP ≠ gl; omega) _).far (by show gP ≠ gl; omega) _, o1, o2, o3⟩
theorem A3I.putP (h : A3I N ga gl gP n m B M rest z amt lf p w W) {i : Nat} (hi : i < m) (v : Int) : A3I N ga gl gP n m B M rest z amt lf (updP p i v) w ((W.setCell ⟨gP, i * 2, none⟩ (hiOf v)).setCell ⟨gP, i * 2 + 1, none⟩ (loOf v)) := by
  have o1 := h.o1; have o2 := h.o2; have o3 := h.o3
  exact ⟨(h.a.fresh (by omega) _ _).fresh (by omega) _ _, (h.am.far (by show ga ≠ gP; omega) _).far (by show ga ≠ gP; omega) _, (h.lf.far (by show gl ≠ gP; omega) _).far (by show gl ≠ gP; omega) _, wideC_set p m i v hi ▸ (h.pt.set_ (i * 2) _).set_ (i * 2 + 1) _, o1, o2, o3⟩
theorem A3I.putI (h : A3I N ga gl gP n m B M rest z amt lf p w W) (hk : kk < n) (i : Nat) (u v : Value) (e : ((itCells (M kk)).toArray.setIfInBounds i u).setIfInBounds (i + 1) v = (itCells y).toArray) : A3I N ga gl gP n m B (fun j => if j = kk then y else M j) rest z amt lf p w ((W.setCell ⟨B kk, i, none⟩ u).setCell ⟨B kk, i + 1, none⟩ v) := by
  have o1 := h.o1; have o2 := h.o2; have o3 := h.o3; have hl := h.a.lt kk hk
  exact ⟨h.a.putI hk i u v e, (h.am.far (by show ga ≠ B kk; omega) _).far (by show ga ≠ B kk; omega) _, (h.lf.far (by show gl ≠ B kk; omega) _).far (by show gl ≠ B kk; omega) _, (h.pt.far (by show gP ≠ B kk; omega) _).far (by show gP ≠ B kk; omega) _, o1, o2, o3⟩
end
def pK (P : Nat → Int) (i : Nat) : Nat → Int := fun j => if j < i then P j else 0
theorem pK_zero (P : Nat → Int) : pK P 0 = fun _ => 0 := by funext j; simp [pK]
theorem pK_succ (P : Nat → Int) (i : Nat) : updP (pK P i) i (P i) = pK P (i + 1) := by
  funext j
  unfold updP pK
  by_cases e : j = i
  · subst e; rw [if_pos rfl, if_pos (by omega)]
  · rw [if_neg e]
    by_cases h : j < i
    · rw [if_pos h, if_pos (by omega)]
    · rw [if_neg h, if_neg (by omega)]
def partsK (M : Nat → It) (amt all : Int) (oth : List Nat) (i : Nat) : Int := ((oth.take i).map (partM M amt all)).sum
theorem partsK_succ (M : Nat → It) (amt all : Int) (oth : List Nat) (i : Nat) (h : i < oth.length) : partsK M amt all oth (i + 1) = partsK M amt all oth i + partM M amt all oth[i] := by
  unfold partsK; rw [List.take_succ_eq_append_getElem h, List.map_append, List.sum_append]; simp
theorem part_bd {amt f all : Int} (ha : 0 ≤ amt) (hf : 0 ≤ f ∧ f ≤ all) (h : 0 < all) : 0 ≤ amt * f / all ∧ amt * f / all ≤ amt :=
  ⟨Int.ediv_nonneg (Int.mul_nonneg ha hf.1) (by omega), Int.ediv_le_of_le_mul h (Int.mul_le_mul_of_nonneg_left hf.2 ha)⟩
theorem partsK_bd (M : Nat → It) (amt all : Int) (oth : List Nat) (ha : 0 ≤ amt ∧ amt ≤ 4000000000000000000) (hf : ∀ k ∈ oth, 0 ≤ (M k).factor ∧ (M k).factor ≤ all) (h : 0 < all) : ∀ i, i ≤ oth.length → 0 ≤ partsK M amt all oth i ∧ partsK M amt all oth i ≤ 4000000000000000000 * i
  | 0, _ => by simp [partsK]
  | i + 1, hi => by
    have ih := partsK_bd M amt all oth ha hf h i (by omega)
    have hb : 0 ≤ partM M amt all oth[i] ∧ partM M amt all oth[i] ≤ amt := part_bd ha.1 (hf oth[i] (List.getElem_mem (by omega))) h
    rw [partsK_succ M amt all oth i (by omega)]
    omega
set_option maxRecDepth 100000 in
set_option maxHeartbeats 4000000 in
theorem aims_any (n : Nat) (B : Nat → Nat) (M : Nat → It) (oth : List Nat) (rest : Int) (grows : Bool) (A : Option Addr) (ca : Nat) (w : World) (hm : oth.length ≤ 100000) (hd : oth.Nodup) (ho : ∀ k ∈ oth, k < n) (hp : PtrAt w n B A oth) (hi : Its n B M w) (hb : ∀ k ∈ oth, FacB (M k)) (hr : -4000000000000000000 ≤ rest ∧ rest ≤ 4000000000000000000) :
    Calls Try.prog 64 #[.slice A oth.length ca, .agg #[hiOf rest, loOf rest], .bool grows] w fun e w' => e = .returned (.tuple #[]) ∧ Its n B (aimsM M oth rest grows) w' ∧ Kp (isB n B) w w' := by
  have HP := Lib.hid hp
  have HI := Lib.hid hi
  have HFB := Lib.hid hb
  have HO := Lib.hid ho
  have HD := Lib.hid hd
  have HTB := Lib.hid (facK_bd M oth hb)
  clear hp hi hb ho hd
  obtain ⟨m, hme⟩ : ∃ m, m = oth.length := ⟨_, rfl⟩
  rw [← hme] at hm ⊢
  have HM := Lib.hid hme
  clear hme
  obtain ⟨fb, hfb⟩ : ∃ f : Nat → It → It, f = fun _ x => { x with aim := x.base } := ⟨_, rfl⟩
  have HFF := Lib.hid hfb
  clear hfb
  go_enter Try.func64, Try.ntmps64
  go_wp2_with fail
  go_loopw [18] (fun kv wr => ∃ i : Nat, i ≤ m ∧ kv = .int .i64 i ∧ Hid (A1I w.heap.size n B (onK fb M oth i) rest (facK M oth i) w wr)) (fun kv _ => m - (intOf kv).toNat)
  case atStart => exact ⟨0, by omega, rfl, Lib.hid ⟨(Blk.new _ _ _).alloc _, Blk.at_ _ _ _ (by simp), by rw [onK_zero]; exact HI.out.bel (bal (bal (Below.refl _ _) _) _), ((Kp.refl _ _).alloc _).alloc _, fun k hk => (HI.out.b k hk).lt, rfl⟩⟩
  case round =>
    obtain ⟨i, hi, rfl, HH⟩ := hrel
    by_cases hlt : i < m
    · have g0 : decide ((i : Int) < (m : Int)) = true := decide_eq_true (by omega)
      have g0' : decide (i < m) = true := decide_eq_true hlt
      have hki : (i : Int) < (m : Int) := by omega
      have hk0 : (0 : Int) ≤ (i : Int) := by omega
      have wk : IntKind.i64.wrap ((i : Int) + 1) = (i : Int) + 1 := IntWalk.i64_in _ ⟨by omega, by omega⟩
      have hil : i < oth.length := by rw [← HM.out]; exact hlt
      obtain ⟨ad, rfl, hc⟩ := (HP.out.kp HH.out.k).at_ hil
      obtain ⟨kk, hkk⟩ : ∃ kk, kk = oth[i] := ⟨_, rfl⟩
      rw [← hkk] at hc
      have hmem : kk ∈ oth := by rw [hkk]; exact List.getElem_mem hil
      have hkn := HO.out kk hmem
      have hfac := (HFB.out kk hmem).factor
      have hbas := (HFB.out kk hmem).base
      have htb := HTB.out i (by omega)
      have HTS : Hid (facK M oth (i + 1) = facK M oth i + (M kk).factor) := Lib.hid (by rw [facK_succ M oth i hil, ← hkk])
      have HMK : Hid (onK fb M oth i kk = M kk) := Lib.hid (by rw [hkk]; exact onK_at fb M HD.out hil)
      have HSC : Hid (onK fb M oth (i + 1) = fun k => if k = kk then fb k (M k) else onK fb M oth i k) := Lib.hid (by rw [onK_succ fb M oth i hil, hkk])
      clear hkk
      obtain ⟨bs, hbs⟩ : ∃ bs, bs = (M kk).base := ⟨_, rfl⟩
      obtain ⟨fa, hfa⟩ : ∃ fa, fa = (M kk).factor := ⟨_, rfl⟩
      obtain ⟨z, hz⟩ : ∃ z, z = facK M oth i := ⟨_, rfl⟩
      rw [← hbs] at hbas
      rw [← hfa] at hfac HTS
      rw [← hz] at htb HTS HH
      have HBF := Lib.hid (And.intro hbs hfa)
      have HIX : Hid (Blk wr (B kk) 89 (itCells (M kk)).toArray) := Lib.hid (by have := HH.out.its.b kk hkn; rw [HMK.out] at this; exact this)
      have q1 := HIX.out.get 48 (it_base _)
      rw [← hbs] at q1
      clear hbs hfa hz
      go_upto_region 6 with (go_at_call 58; refine (of_b _ bs (by omega) (by omega)).mono ?_; rintro e w4 ⟨rfl, hb4⟩; have H4 := Lib.hid (HH.out.bel hb4); have HB4 := Lib.hid (HIX.out.below hb4 HIX.out.lt); clear hb4 q1; have q1 := HB4.out.get 52 (it_aimh _); have q2 := HB4.out.get 53 (it_aiml _); have q3 := HB4.out.frozen 52; have q4 := HB4.out.frozen 53)
      clear hc q1 q2 q3 q4
      have H5 := Lib.hid (H4.out.putI hkn 52 (hiOf bs) (loOf bs) (y := fb kk (M kk)) (by rw [HMK.out, HFF.out, HBF.out.1]; rfl))
      obtain ⟨M5, hM5⟩ : ∃ M5, M5 = fun j => if j = kk then fb kk (M kk) else onK fb M oth i j := ⟨_, rfl⟩
      rw [← hM5] at H5
      have HM5 : Hid (onK fb M oth (i + 1) = M5) := Lib.hid (by
        rw [HSC.out, hM5]; funext k
        by_cases e : k = kk
        · rw [if_pos e, if_pos e, e]
        · rw [if_neg e, if_neg e])
      have HF5 : Hid ((M5 kk).factor = fa) := Lib.hid (by rw [hM5]; simp only [if_true]; rw [HFF.out]; exact HBF.out.2.symm)
      obtain ⟨w5, hw5⟩ : ∃ w5, w5 = (w4.setCell ⟨B kk, 52, none⟩ (hiOf bs)).setCell ⟨B kk, 52 + 1, none⟩ (loOf bs) := ⟨_, rfl⟩
      rw [← hw5] at H5
      have hw5' : w5 = (w4.setCell ⟨B kk, 52, none⟩ (hiOf bs)).setCell ⟨B kk, 53, none⟩ (loOf bs) := hw5
      rw [← hw5']
      clear hw5 hw5' hM5
      have wv : W128 (z + fa) := ⟨by omega, by omega⟩
      have E0 : A1I w.heap.size n B M5 rest z w w5.drew := H5.out.bel (Below.refl _ _).drew
      refine wp_region_S (fun b _ _ W => A1I w.heap.size n B M5 rest (if b then z + fa else z) w W) 6 1000 100000 false true (by kernel_rfl) (by kernel_rfl) (by kernel_rfl) (E0) ?_
      refine wpAnyS_pre (j := 0) (by kernel_rfl) ?_
      iterate 5
        refine wpAnyS_nx (v := ?_) rfl (by kernel_rfl) (by kernel_rfl) (by kernel_rfl) (fun _ _ _ h => h) (by rfl) (gives_pureF (by rfl) (by kernel_rfl) ?_) ?_
        rotate_left
        · intro d' u' W' hS'
          have h1 : W'.cell? ⟨w.heap.size + 1, 0, none⟩ = some (hiOf z) := hS'.al.get 0 rfl
          have h2 : W'.cell? ⟨w.heap.size + 1, 1, none⟩ = some (loOf z) := hS'.al.get 1 rfl
          have h3 := (hS'.its.b kk hkn).get 50 (it_factorh _)
          have h4 := (hS'.its.b kk hkn).get 51 (it_factorl _)
          rw [HF5.out] at h3 h4
          go_simp
          rfl
        try simp only [Act.put, List.setIfInBounds_toArray, List.set_cons_zero, List.set_cons_succ, List.getElem_toArray, List.getElem_cons_zero, List.getElem_cons_succ]
      refine wpAnyS_take (i := 5) (v := _) rfl (by kernel_rfl) (by kernel_rfl) (by kernel_rfl) (fun _ _ _ h => h) (by rfl) (gives_callF (by rfl) (by kernel_rfl) _ _ ?_ (fun d' u' W' hS' => (plus_b W' z fa wv).mono fun e W2 ⟨he, hb⟩ => ⟨he, hS'.bel hb⟩)) ?_
      · intro W'
        first | rfl | kernel_rfl
      try simp only [Act.put, List.setIfInBounds_toArray, List.set_cons_zero, List.set_cons_succ, List.getElem_toArray, List.getElem_cons_zero, List.getElem_cons_succ]
      refine wpAnyS_store (i := 6) (d := true) (fun W' => (W'.setCell ⟨w.heap.size + 1, 0, none⟩ (hiOf (z + fa))).setCell ⟨w.heap.size + 1, 1, none⟩ (loOf (z + fa))) rfl (by kernel_rfl) (by rfl) (by rfl) (by kernel_rfl) rfl ?_ (fun W' hS' => hS'.putA) ?_
      · intro W' hS'
        have h1 : W'.cell? ⟨w.heap.size + 1, 0, none⟩ = some (hiOf z) := hS'.al.get 0 rfl
        have h2 : W'.cell? ⟨w.heap.size + 1, 1, none⟩ = some (loOf z) := hS'.al.get 1 rfl
        have q3 := hS'.al.frozen 0
        have q4 := hS'.al.frozen 1
        go_simp
        try rfl
      try simp only [Act.put, List.setIfInBounds_toArray, List.set_cons_zero, List.set_cons_succ, List.getElem_toArray, List.getElem_cons_zero, List.getElem_cons_succ]
      refine wpAnyS_done (b := true) (d := true) (by kernel_rfl) (by kernel_rfl) (by kernel_rfl) rfl (fun wS hS => ?_) _
      have HF := Lib.hid (show A1I w.heap.size n B M5 rest (z + fa) w wS from hS)
      rw [← HTS.out, ← HM5.out] at HF
      clear hS E0 wv
      go_wp2_with fail
      go_roundw
      case rel => exact ⟨i + 1, by omega, by go_num, HF⟩
      case measure => simp [intOf] <;> omega
    · have g0 : decide ((i : Int) < (m : Int)) = false := decide_eq_false (by omega)
      have g0' : decide (i < m) = false := decide_eq_false hlt
      have hkn : i = m := by omega
      rw [hkn] at HH
      clear hkn hlt
      have hall := HTB.out m (by rw [HM.out]; exact Nat.le_refl _)
      have HAL : Hid (facK M oth m = sumM M It.factor oth) := Lib.hid (by unfold facK sumM; rw [HM.out, List.take_length])
      obtain ⟨al, hal⟩ : ∃ al, al = facK M oth m := ⟨_, rfl⟩
      rw [← hal] at HH HAL hall
      clear hal
      obtain ⟨M1, hM1⟩ : ∃ M1, M1 = onK fb M oth m := ⟨_, rfl⟩
      rw [← hM1] at HH
      have HM1 : Hid (∀ k, M1 k = if k ∈ oth then { M k with aim := (M k).base } else M k) := Lib.hid (fun k => by rw [hM1, HM.out, onK_all, HFF.out])
      clear hM1
      obtain ⟨N, hN⟩ : ∃ N, N = w.heap.size := ⟨_, rfl⟩
      rw [← hN] at HH ⊢
      have HN := Lib.hid hN
      obtain ⟨amt, hamt⟩ : ∃ amt, amt = if grows then rest else -rest := ⟨_, rfl⟩
      have HAMT := Lib.hid hamt
      have hamb : -4000000000000000000 ≤ amt ∧ amt ≤ 4000000000000000000 := by rw [hamt]; cases grows <;> simp <;> omega
      obtain ⟨ga, hga⟩ : ∃ ga, ga = wr.heap.size := ⟨_, rfl⟩
      have HGA : Hid (N + 1 < ga) := Lib.hid (by rw [hga]; exact HH.out.al.lt)
      have r1 := HH.out.rs.get 0 (v := hiOf rest) rfl
      have r2 := HH.out.rs.get 1 (v := loOf rest) rfl
      have HA0 := Lib.hid (show A2I N ga n B M1 rest al rest w (wr.alloc (.cells #[hiOf rest, loOf rest] 87)) from ⟨HH.out.bel (bal (Below.refl _ _) _), by rw [hga]; exact Blk.new _ _ _, HGA.out⟩)
      clear hamt hN
      have HEND : Hid (∀ W, A1I N n B M1 rest al w W → (amt ≤ 0 ∨ al ≤ 0) → Its n B (aimsM M oth rest grows) W ∧ Kp (isB n B) w W) := Lib.hid (fun W h hz => by
        refine ⟨h.its.congr fun k _ => ?_, h.k⟩
        rw [HM1.out k]
        unfold aimsM
        by_cases hk : k ∈ oth
        · rw [if_pos hk, if_pos hk]
          congr 1
          unfold aimF
          simp only []
          rw [← HAMT.out, ← HAL.out, if_pos hz]
        · rw [if_neg hk, if_neg hk])
      go_upto_region 9 with (fail)
      obtain ⟨w2, hw2⟩ : ∃ w2, w2 = wr.alloc (.cells #[hiOf rest, loOf rest] 87) := ⟨_, rfl⟩
      rw [← hga]
      rw [← hw2] at HA0 ⊢
      clear hw2 hga r1 r2
      go_upto_if 39 with (fail)
      go_cut [9] (fun s9 wx => s9 = .pointer (some ⟨ga, 0, none⟩) ∧ Hid (A2I N ga n B M1 rest al amt w wx))
      case first =>
        cases grows
        · have HAE : Hid (-rest = amt) := Lib.hid (by rw [HAMT.out]; simp)
          have wv : W128 (0 - rest) := ⟨by omega, by omega⟩
          have r1 := HA0.out.a.rs.get 0 (v := hiOf rest) rfl
          have r2 := HA0.out.a.rs.get 1 (v := loOf rest) rfl
          go_wp2_with (go_at_call 60; refine (minus_0 rest _ wv).mono ?_; rintro e w3 ⟨rfl, hb3⟩; have HA3 := Lib.hid (HA0.out.bel hb3); clear hb3 r1 r2; have q1 := HA3.out.am.get 0 (v := hiOf rest) rfl; have q2 := HA3.out.am.get 1 (v := loOf rest) rfl; have q3 := HA3.out.am.frozen 0; have q4 := HA3.out.am.frozen 1)
          go_meet
          rw [HAE.out]
          exact ⟨rfl, Lib.hid ⟨(HA3.out.a.fresh HGA.out _ _).fresh HGA.out _ _, (HA3.out.am.set_ 0 _).set_ 1 _, HGA.out⟩⟩
        · have HAE : Hid (rest = amt) := Lib.hid (by rw [HAMT.out]; simp)
          go_wp2_with fail
          go_meet
          refine ⟨rfl, Lib.hid ?_⟩
          rw [← HAE.out]
          exact HA0.out
      case rest =>
        obtain ⟨rfl, HA4⟩ := hcut
        have q1 := HA4.out.am.get 0 (v := hiOf amt) rfl
        have q2 := HA4.out.am.get 1 (v := loOf amt) rfl
        by_cases c1 : amt ≤ 0
        · have e1 : decide (cmpI amt 0 ≤ 0) = true := decide_eq_true (by unfold cmpI; split <;> (try split) <;> omega)
          have HC := Lib.hid c1
          clear c1
          go_wp2_with (go_at_call 62; refine (sign_any amt _).mono ?_; rintro e w5 ⟨rfl, hw5⟩; have HA5 := Lib.hid (HA4.out.bel (hw5 ▸ bal (bal (bal (Below.refl _ _) _) _) _)); clear hw5 q1 q2)
          exact bodyPost_ret (results_none rfl _ _ _) rfl ⟨rfl, HEND.out _ HA5.out.a (.inl HC.out)⟩
        · have e1 : decide (cmpI amt 0 ≤ 0) = false := decide_eq_false (by unfold cmpI; rw [if_neg (by omega), if_pos (by omega)]; decide)
          have c1' : 0 < amt := by omega
          clear c1
          by_cases c2 : al ≤ 0
          · have e2 : decide (cmpI al 0 ≤ 0) = true := decide_eq_true (by unfold cmpI; split <;> (try split) <;> omega)
            have HC := Lib.hid c2
            clear c2
            go_wp2_with (first
              | (go_at_call 62; refine (sign_any amt _).mono ?_; rintro e w5 ⟨rfl, hw5⟩; have HA5 := Lib.hid (HA4.out.bel (hw5 ▸ bal (bal (bal (Below.refl _ _) _) _) _)); clear hw5 q1 q2; have q1 := HA5.out.a.al.get 0 (v := hiOf al) rfl; have q2 := HA5.out.a.al.get 1 (v := loOf al) rfl)
              | (go_at_call 62; refine (sign_any al _).mono ?_; rintro e w6 ⟨rfl, hw6⟩; have HA6 := Lib.hid (HA5.out.bel (hw6 ▸ bal (bal (bal (Below.refl _ _) _) _) _)); clear hw6 q1 q2))
            exact bodyPost_ret (results_none rfl _ _ _) rfl ⟨rfl, HEND.out _ HA6.out.a (.inr HC.out)⟩
          · have e2 : decide (cmpI al 0 ≤ 0) = false := decide_eq_false (by unfold cmpI; rw [if_neg (by omega), if_pos (by omega)]; decide)
            have c2' : 0 < al := by omega
            clear c2 HEND
            go_upto_region 12 with (first
              | (go_at_call 62; refine (sign_any amt _).mono ?_; rintro e w5 ⟨rfl, hw5⟩; have HA5 := Lib.hid (HA4.out.bel (hw5 ▸ bal (bal (bal (Below.refl _ _) _) _) _)); clear hw5 q1 q2; have q1 := HA5.out.a.al.get 0 (v := hiOf al) rfl; have q2 := HA5.out.a.al.get 1 (v := loOf al) rfl)
              | (go_at_call 62; refine (sign_any al _).mono ?_; rintro e w6 ⟨rfl, hw6⟩; have HA6 := Lib.hid (HA5.out.bel (hw6 ▸ bal (bal (bal (Below.refl _ _) _) _) _)); clear hw6 q1 q2))
            clear e1 e2
            have q1 := HA6.out.am.get 0 (v := hiOf amt) rfl
            have q2 := HA6.out.am.get 1 (v := loOf amt) rfl
            have hmk := fun W => make_wides m (by omega) W
            obtain ⟨gl, hgl⟩ : ∃ gl, gl = w6.heap.size := ⟨_, rfl⟩
            have HGL : Hid (ga < gl) := Lib.hid (by rw [hgl]; exact HA6.out.am.lt)
            go_wp2_with fail
            rw [← hgl]
            have HL0 : Hid (A3I N ga gl (gl + 1) n m B M1 rest al amt amt (fun _ => 0) w ((w6.alloc (.cells #[hiOf amt, loOf amt] 87)).alloc (.cells (wideC (fun _ => 0) m).toArray 87))) := Lib.hid
              ⟨HA6.out.a.bel (bal (bal (Below.refl _ _) _) _), (HA6.out.am.alloc _).alloc _, (Blk.at_ _ _ _ hgl).alloc _, Blk.at_ _ _ _ (by simp [hgl]), HGA.out, HGL.out, Nat.lt_succ_self _⟩
            obtain ⟨w7, hw7⟩ : ∃ w7, w7 = ((w6.alloc (.cells #[hiOf amt, loOf amt] 87)).alloc (.cells (wideC (fun _ => 0) m).toArray 87)) := ⟨_, rfl⟩
            obtain ⟨gP, hgP⟩ : ∃ gP, gP = gl + 1 := ⟨_, rfl⟩
            rw [← hgP] at HL0 ⊢
            rw [← hw7] at HL0 ⊢
            clear hw7 hgP hgl hmk q1 q2
            obtain ⟨P, hP⟩ : ∃ P : Nat → Int, P = fun j => partM M amt al (oth.getD j 0) := ⟨_, rfl⟩
            have HPP : Hid (∀ i (h : i < oth.length), P i = partM M amt al oth[i]) := Lib.hid (fun i h => by rw [hP]; simp [List.getD_eq_getElem?_getD, List.getElem?_eq_getElem h])
            clear hP
            have HFL : Hid (∀ k ∈ oth, 0 ≤ (M k).factor ∧ (M k).factor ≤ al) := Lib.hid (fun k hk => ⟨(HFB.out k hk).factor.1, by rw [HAL.out]; exact fac_le M oth (fun k hk => (HFB.out k hk).factor.1) k hk⟩)
            have HPB := Lib.hid (partsK_bd M amt al oth ⟨by omega, by omega⟩ HFL.out c2')
            go_loopw [57] (fun kv wx => ∃ i : Nat, i ≤ m ∧ kv = .int .i64 i ∧ Hid (A3I N ga gl gP n m B M1 rest al amt (amt - partsK M amt al oth i) (pK P i) w wx)) (fun kv _ => m - (intOf kv).toNat)
            case atStart => exact ⟨0, by omega, rfl, Lib.hid (by rw [pK_zero, show partsK M amt al oth 0 = 0 by simp [partsK], Int.sub_zero]; exact HL0.out)⟩
            case round =>
              obtain ⟨i, hi, rfl, HH⟩ := hrel
              by_cases hlt : i < m
              · have g0 : decide ((i : Int) < (m : Int)) = true := decide_eq_true (by omega)
                have g0' : decide (i < m) = true := decide_eq_true hlt
                have hki : (i : Int) < (m : Int) := by omega
                have hk0 : (0 : Int) ≤ (i : Int) := by omega
                have wk : IntKind.i64.wrap ((i : Int) + 1) = (i : Int) + 1 := IntWalk.i64_in _ ⟨by omega, by omega⟩
                have hil : i < oth.length := by rw [← HM.out]; exact hlt
                obtain ⟨ad, rfl, hc⟩ := (HP.out.kp HH.out.a.k).at_ hil
                obtain ⟨kk, hkk⟩ : ∃ kk, kk = oth[i] := ⟨_, rfl⟩
                rw [← hkk] at hc
                have hmem : kk ∈ oth := by rw [hkk]; exact List.getElem_mem hil
                have hkn := HO.out kk hmem
                have hfl := HFL.out kk hmem
                have hpb := HPB.out i (by omega)
                have hpp := part_bd (amt := amt) (by omega) hfl c2'
                have HPI : Hid (P i = amt * (M kk).factor / al) := Lib.hid (by rw [HPP.out i hil, ← hkk]; rfl)
                have HPS : Hid (partsK M amt al oth (i + 1) = partsK M amt al oth i + amt * (M kk).factor / al) := Lib.hid (by rw [partsK_succ M amt al oth i hil, ← hkk]; rfl)
                have HMF : Hid ((M1 kk).factor = (M kk).factor) := Lib.hid (by rw [HM1.out kk, if_pos hmem])
                clear hkk
                obtain ⟨fa, hfa⟩ : ∃ fa, fa = (M kk).factor := ⟨_, rfl⟩
                rw [← hfa] at hfl hpp HPI HPS HMF
                obtain ⟨pv, hpv⟩ : ∃ pv, pv = amt * fa / al := ⟨_, rfl⟩
                rw [← hpv] at hpp HPI HPS
                obtain ⟨lf, hlf⟩ : ∃ lf, lf = amt - partsK M amt al oth i := ⟨_, rfl⟩
                have hlb : -4000000000000000000000000 ≤ lf ∧ lf ≤ 4000000000000000000 := by rw [hlf]; omega
                rw [← hlf] at HH
                have HLF := Lib.hid hlf
                have HPV := Lib.hid hpv
                have HSH := Lib.hid (fun W => share_any amt fa al W ⟨by omega, by omega⟩ hfl ⟨c2', by omega⟩)
                rw [← hpv] at HSH
                clear hfa hpv hlf
                go_upto_region 17 with (fail)
                clear hc
                have hi2 : i < m := hlt
                have E0 : A3I N ga gl gP n m B M1 rest al amt lf (pK P i) w wr.drew := HH.out.bel (Below.refl _ _).drew
                refine wp_region_S (fun b _ _ W => A3I N ga gl gP n m B M1 rest al amt lf (if b then updP (pK P i) i pv else pK P i) w W) 10 1000 100000 false true (by kernel_rfl) (by kernel_rfl) (by kernel_rfl) (E0) ?_
                refine wpAnyS_pre (j := 0) (by kernel_rfl) ?_
                iterate 8
                  refine wpAnyS_nx (v := ?_) rfl (by kernel_rfl) (by kernel_rfl) (by kernel_rfl) (fun _ _ _ h => h) (by rfl) (gives_pureF (by rfl) (by kernel_rfl) ?_) ?_
                  rotate_left
                  · intro d' u' W' hS'
                    have y := hS'.am
                    have y1 := y.get 0 (v := hiOf amt) rfl
                    have y2 := y.get 1 (v := loOf amt) rfl
                    have z := hS'.a.al
                    have z1 := z.get 0 (v := hiOf al) rfl
                    have z2 := z.get 1 (v := loOf al) rfl
                    have h3 := (hS'.a.its.b kk hkn).get 50 (it_factorh _)
                    have h4 := (hS'.a.its.b kk hkn).get 51 (it_factorl _)
                    rw [HMF.out] at h3 h4
                    clear y z
                    go_simp
                    rfl
                  try simp only [Act.put, List.setIfInBounds_toArray, List.set_cons_zero, List.set_cons_succ, List.getElem_toArray, List.getElem_cons_zero, List.getElem_cons_succ]
                refine wpAnyS_take (i := 8) (v := _) rfl (by kernel_rfl) (by kernel_rfl) (by kernel_rfl) (fun _ _ _ h => h) (by rfl) (gives_callF (by rfl) (by kernel_rfl) _ _ ?_ (fun d' u' W' hS' => (HSH.out W').mono fun e W2 ⟨he, hb⟩ => ⟨he, hS'.bel hb⟩)) ?_
                · intro W'
                  first | rfl | kernel_rfl
                try simp only [Act.put, List.setIfInBounds_toArray, List.set_cons_zero, List.set_cons_succ, List.getElem_toArray, List.getElem_cons_zero, List.getElem_cons_succ]
                refine wpAnyS_take (i := 9) (v := ?_) rfl (by kernel_rfl) (by kernel_rfl) (by kernel_rfl) (fun _ _ _ h => h) (by rfl) (gives_pureF (by rfl) (by kernel_rfl) ?_) ?_
                rotate_left
                · intro d' u' W' hS'
                  have y := hS'.am
                  have y1 := y.get 0 (v := hiOf amt) rfl
                  have y2 := y.get 1 (v := loOf amt) rfl
                  have z := hS'.a.al
                  have z1 := z.get 0 (v := hiOf al) rfl
                  have z2 := z.get 1 (v := loOf al) rfl
                  have h3 := (hS'.a.its.b kk hkn).get 50 (it_factorh _)
                  have h4 := (hS'.a.its.b kk hkn).get 51 (it_factorl _)
                  rw [HMF.out] at h3 h4
                  clear y z
                  go_simp
                  rfl
                try simp only [Act.put, List.setIfInBounds_toArray, List.set_cons_zero, List.set_cons_succ, List.getElem_toArray, List.getElem_cons_zero, List.getElem_cons_succ]
                refine wpAnyS_store (i := 10) (d := true) (fun W' => (W'.setCell ⟨gP, i * 2, none⟩ (hiOf pv)).setCell ⟨gP, i * 2 + 1, none⟩ (loOf pv)) rfl (by kernel_rfl) (by rfl) (by rfl) (by kernel_rfl) rfl ?_ (fun W' hS' => hS'.putP hi2 pv) ?_
                · intro W' hS'
                  have p1 := hS'.pt.get (i * 2) (by rw [List.getElem?_toArray]; exact wideC_hi _ hi2)
                  have p2 := hS'.pt.get (i * 2 + 1) (by rw [List.getElem?_toArray]; exact wideC_lo _ hi2)
                  have p3 := hS'.pt.frozen (i * 2)
                  have p4 := hS'.pt.frozen (i * 2 + 1)
                  go_simp
                  try rfl
                try simp only [Act.put, List.setIfInBounds_toArray, List.set_cons_zero, List.set_cons_succ, List.getElem_toArray, List.getElem_cons_zero, List.getElem_cons_succ]
                refine wpAnyS_done (b := true) (d := true) (by kernel_rfl) (by kernel_rfl) (by kernel_rfl) rfl (fun wS hS => ?_) _
                have H17 := Lib.hid (show A3I N ga gl gP n m B M1 rest al amt lf (updP (pK P i) i pv) w wS from hS)
                have e17 : updP (pK P i) i pv = pK P (i + 1) := by rw [← HPI.out]; exact pK_succ P i
                rw [e17] at H17
                clear hS E0 e17
                have HPA : Hid (pK P (i + 1) i = pv) := Lib.hid (by unfold pK; rw [if_pos (by omega)]; exact HPI.out)
                have wv : W128 (lf - pv) := ⟨by omega, by omega⟩
                have E0 : A3I N ga gl gP n m B M1 rest al amt lf (pK P (i + 1)) w wS.drew := H17.out.bel (Below.refl _ _).drew
                go_upto_region 18 with (fail)
                refine wp_region_S (fun b _ _ W => A3I N ga gl gP n m B M1 rest al amt (if b then lf - pv else lf) (pK P (i + 1)) w W) 6 1000 100000 false true (by kernel_rfl) (by kernel_rfl) (by kernel_rfl) (E0) ?_
                refine wpAnyS_pre (j := 0) (by kernel_rfl) ?_
                iterate 5
                  refine wpAnyS_nx (v := ?_) rfl (by kernel_rfl) (by kernel_rfl) (by kernel_rfl) (fun _ _ _ h => h) (by rfl) (gives_pureF (by rfl) (by kernel_rfl) ?_) ?_
                  rotate_left
                  · intro d' u' W' hS'
                    have y1 : W'.cell? ⟨gl, 0, none⟩ = some (hiOf lf) := hS'.lf.get 0 rfl
                    have y2 : W'.cell? ⟨gl, 1, none⟩ = some (loOf lf) := hS'.lf.get 1 rfl
                    have p1 : W'.cell? ⟨gP, i * 2, none⟩ = some (hiOf pv) := hS'.pt.get (i * 2) (by rw [List.getElem?_toArray, wideC_hi _ hi2, HPA.out])
                    have p2 : W'.cell? ⟨gP, i * 2 + 1, none⟩ = some (loOf pv) := hS'.pt.get (i * 2 + 1) (by rw [List.getElem?_toArray, wideC_lo _ hi2, HPA.out])
                    go_simp
                    rfl
                  try simp only [Act.put, List.setIfInBounds_toArray, List.set_cons_zero, List.set_cons_succ, List.getElem_toArray, List.getElem_cons_zero, List.getElem_cons_succ]
                refine wpAnyS_take (i := 5) (v := _) rfl (by kernel_rfl) (by kernel_rfl) (by kernel_rfl) (fun _ _ _ h => h) (by rfl) (gives_callF (by rfl) (by kernel_rfl) _ _ ?_ (fun d' u' W' hS' => (minus_b W' lf pv wv).mono fun e W2 ⟨he, hb⟩ => ⟨he, hS'.bel hb⟩)) ?_
                · intro W'
                  first | rfl | kernel_rfl
                try simp only [Act.put, List.setIfInBounds_toArray, List.set_cons_zero, List.set_cons_succ, List.getElem_toArray, List.getElem_cons_zero, List.getElem_cons_succ]
                refine wpAnyS_store (i := 6) (d := true) (fun W' => (W'.setCell ⟨gl, 0, none⟩ (hiOf (lf - pv))).setCell ⟨gl, 1, none⟩ (loOf (lf - pv))) rfl (by kernel_rfl) (by rfl) (by rfl) (by kernel_rfl) rfl ?_ (fun W' hS' => hS'.putL) ?_
                · intro W' hS'
                  have y1 : W'.cell? ⟨gl, 0, none⟩ = some (hiOf lf) := hS'.lf.get 0 rfl
                  have y2 : W'.cell? ⟨gl, 1, none⟩ = some (loOf lf) := hS'.lf.get 1 rfl
                  have p3 := hS'.lf.frozen 0
                  have p4 := hS'.lf.frozen 1
                  go_simp
                  try rfl
                try simp only [Act.put, List.setIfInBounds_toArray, List.set_cons_zero, List.set_cons_succ, List.getElem_toArray, List.getElem_cons_zero, List.getElem_cons_succ]
                refine wpAnyS_done (b := true) (d := true) (by kernel_rfl) (by kernel_rfl) (by kernel_rfl) rfl (fun wT hT => ?_) _
                have HF := Lib.hid (show A3I N ga gl gP n m B M1 rest al amt (lf - pv) (pK P (i + 1)) w wT from hT)
                have e18 : lf - pv = amt - partsK M amt al oth (i + 1) := by rw [HPS.out, HLF.out]; omega
                rw [e18] at HF
                clear hT E0 wv e18
                go_wp2_with fail
                go_roundw
                case rel => exact ⟨i + 1, by omega, by go_num, HF⟩
                case measure => simp [intOf] <;> omega
              · have g0 : decide ((i : Int) < (m : Int)) = false := decide_eq_false (by omega)
                have g0' : decide (i < m) = false := decide_eq_false hlt
                have hkn : i = m := by omega
                rw [hkn] at HH
                clear hkn hlt
                have hpb := HPB.out m (by rw [HM.out]; exact Nat.le_refl _)
                obtain ⟨lf, hlf⟩ : ∃ lf, lf = amt - partsK M amt al oth m := ⟨_, rfl⟩
                have hlb : -4000000000000000000000000 ≤ lf ∧ lf ≤ 4000000000000000000 := by rw [hlf]; omega
                rw [← hlf] at HH
                have HLF : Hid (lf = amt - (oth.map (partM M amt al)).sum) := Lib.hid (by rw [hlf]; unfold partsK; rw [HM.out, List.take_length])
                clear hlf hpb
                obtain ⟨fa3, hfa3⟩ : ∃ f : Nat → It → It, f = fun k x => { x with aim := aimF M oth rest grows k } := ⟨_, rfl⟩
                have HF3 := Lib.hid hfa3
                clear hfa3
                go_wp2_with fail
                go_loopw [81] (fun kv wx => ∃ i : Nat, i ≤ m ∧ kv = .int .i64 i ∧ Hid (∃ q, (∀ j, i ≤ j → j < m → q j = P j) ∧ A3I N ga gl gP n m B (onK fa3 M1 oth i) rest al amt lf q w wx)) (fun kv _ => m - (intOf kv).toNat)
                case atStart => exact ⟨0, by omega, rfl, Lib.hid ⟨pK P m, fun j _ hj => if_pos hj, by rw [onK_zero]; exact HH.out⟩⟩
                case round =>
                  obtain ⟨i, hi, rfl, HX⟩ := hrel
                  obtain ⟨q, hq, hA⟩ := HX.out
                  have HQ := Lib.hid (And.intro hq hA)
                  clear HX hq hA
                  by_cases hlt : i < m
                  · have g0 : decide ((i : Int) < (m : Int)) = true := decide_eq_true (by omega)
                    have g0' : decide (i < m) = true := decide_eq_true hlt
                    have hki : (i : Int) < (m : Int) := by omega
                    have hk0 : (0 : Int) ≤ (i : Int) := by omega
                    have wk : IntKind.i64.wrap ((i : Int) + 1) = (i : Int) + 1 := IntWalk.i64_in _ ⟨by omega, by omega⟩
                    have hil : i < oth.length := by rw [← HM.out]; exact hlt
                    obtain ⟨ad, rfl, hc⟩ := (HP.out.kp HQ.out.2.a.k).at_ hil
                    obtain ⟨kk, hkk⟩ : ∃ kk, kk = oth[i] := ⟨_, rfl⟩
                    rw [← hkk] at hc
                    have hmem : kk ∈ oth := by rw [hkk]; exact List.getElem_mem hil
                    have hkn := HO.out kk hmem
                    have hbas := (HFB.out kk hmem).base
                    have hpp := part_bd (amt := amt) (by omega) (HFL.out kk hmem) c2'
                    have HPI : Hid (P i = partM M amt al kk) := Lib.hid (by rw [HPP.out i hil, ← hkk])
                    have HMK : Hid (onK fa3 M1 oth i kk = M1 kk ∧ (M1 kk).aim = (M kk).base) := Lib.hid ⟨by rw [hkk]; exact onK_at fa3 M1 HD.out hil, by rw [HM1.out kk, if_pos hmem]⟩
                    have HSC : Hid (onK fa3 M1 oth (i + 1) = fun k => if k = kk then fa3 k (M1 k) else onK fa3 M1 oth i k) := Lib.hid (by rw [onK_succ fa3 M1 oth i hil, hkk])
                    have HIX : Hid (oth.idxOf kk = i) := Lib.hid (by rw [hkk]; exact HD.out.idxOf_getElem i hil)
                    clear hkk
                    obtain ⟨bs, hbs⟩ : ∃ bs, bs = (M kk).base := ⟨_, rfl⟩
                    obtain ⟨pv, hpv⟩ : ∃ pv, pv = partM M amt al kk := ⟨_, rfl⟩
                    have hpp2 : 0 ≤ pv ∧ pv ≤ amt := by rw [hpv]; exact hpp
                    rw [← hbs] at hbas HMK
                    rw [← hpv] at HPI
                    obtain ⟨M3, hM3⟩ : ∃ M3, M3 = onK fa3 M1 oth i := ⟨_, rfl⟩
                    rw [← hM3] at HQ HMK HSC
                    have HQI : Hid (q i = pv) := Lib.hid (by rw [HQ.out.1 i (Nat.le_refl _) hlt, HPI.out])
                    have HAF : Hid (aimF M oth rest grows kk = if grows then bs + (pv + if (i : Int) < lf then 1 else 0) else bs - (pv + if (i : Int) < lf then 1 else 0)) := Lib.hid (by
                      unfold aimF
                      simp only []
                      rw [← HAMT.out, ← HAL.out, ← HLF.out, HIX.out, ← hbs, ← hpv, if_neg (by omega)])
                    clear hpp hbs hpv hM3
                    go_upto_region 23 with (fail)
                    clear hc
                    have hi2 : i < m := hlt
                    by_cases c3 : (i : Int) < lf
                    · have e3 : decide (0 < cmpI lf (i : Int)) = true := decide_eq_true (by unfold cmpI; rw [if_neg (by omega), if_pos (by omega)]; decide)
                      rw [if_pos c3] at HAF
                      clear c3
                      have E0 : A3I N ga gl gP n m B M3 rest al amt lf q w wr.drew := HQ.out.2.bel (Below.refl _ _).drew
                      refine wp_region_S (fun _ _ _ W => A3I N ga gl gP n m B M3 rest al amt lf q w W) 1000 1000 100000 true true (by kernel_rfl) (by kernel_rfl) (by kernel_rfl) (E0) ?_
                      refine wpAnyS_pre (j := 0) (by kernel_rfl) ?_
                      iterate 2
                        refine wpAnyS_nx (v := ?_) rfl (by kernel_rfl) (by kernel_rfl) (by kernel_rfl) (fun _ _ _ h => h) (by rfl) (gives_pure (by rfl) ?_) ?_
                        rotate_left
                        · intro b' d' u' W' hS'
                          have y1 := hS'.lf.get 0 (v := hiOf lf) rfl
                          have y2 := hS'.lf.get 1 (v := loOf lf) rfl
                          go_simp
                          rfl
                        try simp only [Act.put, List.setIfInBounds_toArray, List.set_cons_zero, List.set_cons_succ, List.getElem_toArray, List.getElem_cons_zero, List.getElem_cons_succ]
                      refine wpAnyS_take (i := 2) (v := _) rfl (by kernel_rfl) (by kernel_rfl) (by kernel_rfl) (fun _ _ _ h => h) (by rfl) (gives_call (by rfl) _ _ ?_ (fun b' d' u' W' hS' => (of_b W' (i : Int) (by omega) (by omega)).mono fun e W2 ⟨he, hb⟩ => ⟨he, hS'.bel hb⟩)) ?_
                      · intro W'
                        first | rfl | kernel_rfl
                      try simp only [Act.put, List.setIfInBounds_toArray, List.set_cons_zero, List.set_cons_succ, List.getElem_toArray, List.getElem_cons_zero, List.getElem_cons_succ]
                      refine wpAnyS_take (i := 3) (v := _) rfl (by kernel_rfl) (by kernel_rfl) (by kernel_rfl) (fun _ _ _ h => h) (by rfl) (gives_call (by rfl) _ _ ?_ (fun b' d' u' W' hS' => (against_b W' lf (i : Int)).mono fun e W2 ⟨he, hb⟩ => ⟨he, hS'.bel hb⟩)) ?_
                      · intro W'
                        first | rfl | kernel_rfl
                      try simp only [Act.put, List.setIfInBounds_toArray, List.set_cons_zero, List.set_cons_succ, List.getElem_toArray, List.getElem_cons_zero, List.getElem_cons_succ]
                      refine wpAnyS_take (i := 4) (v := ?_) rfl (by kernel_rfl) (by kernel_rfl) (by kernel_rfl) (fun _ _ _ h => h) (by rfl) (gives_pure (by rfl) ?_) ?_
                      rotate_left
                      · intro b' d' u' W' hS'
                        have y1 := hS'.lf.get 0 (v := hiOf lf) rfl
                        have y2 := hS'.lf.get 1 (v := loOf lf) rfl
                        go_simp
                        rfl
                      try simp only [Act.put, List.setIfInBounds_toArray, List.set_cons_zero, List.set_cons_succ, List.getElem_toArray, List.getElem_cons_zero, List.getElem_cons_succ]
                      refine wpAnyS_done (b := true) (d := true) (by kernel_rfl) (by kernel_rfl) (by kernel_rfl) rfl (fun wS hS => ?_) _
                      have H23 := Lib.hid (show A3I N ga gl gP n m B M3 rest al amt lf q w wS from hS)
                      clear hS E0
                      go_upto_region 24 with (fail)
                      have E0 : A3I N ga gl gP n m B M3 rest al amt lf q w wS.drew := H23.out.bel (Below.refl _ _).drew
                      have wv : W128 (pv + 1) := ⟨by omega, by omega⟩
                      refine wp_region_S (fun b _ _ W => A3I N ga gl gP n m B M3 rest al amt lf (if b then updP q i (pv + 1) else q) w W) 9 1000 100000 false true (by kernel_rfl) (by kernel_rfl) (by kernel_rfl) (E0) ?_
                      refine wpAnyS_pre (j := 0) (by kernel_rfl) ?_
                      iterate 6
                        refine wpAnyS_nx (v := ?_) rfl (by kernel_rfl) (by kernel_rfl) (by kernel_rfl) (fun _ _ _ h => h) (by rfl) (gives_pureF (by rfl) (by kernel_rfl) ?_) ?_
                        rotate_left
                        · intro d' u' W' hS'
                          have p1 : W'.cell? ⟨gP, i * 2, none⟩ = some (hiOf pv) := hS'.pt.get (i * 2) (by rw [List.getElem?_toArray]; exact HQI.out ▸ wideC_hi q hi2)
                          have p2 : W'.cell? ⟨gP, i * 2 + 1, none⟩ = some (loOf pv) := hS'.pt.get (i * 2 + 1) (by rw [List.getElem?_toArray]; exact HQI.out ▸ wideC_lo q hi2)
                          go_simp
                          rfl
                        try simp only [Act.put, List.setIfInBounds_toArray, List.set_cons_zero, List.set_cons_succ, List.getElem_toArray, List.getElem_cons_zero, List.getElem_cons_succ]
                      refine wpAnyS_take (i := 6) (v := _) rfl (by kernel_rfl) (by kernel_rfl) (by kernel_rfl) (fun _ _ _ h => h) (by rfl) (gives_callF (by rfl) (by kernel_rfl) _ _ ?_ (fun d' u' W' hS' => (of_b W' 1 (by decide) (by decide)).mono fun e W2 ⟨he, hb⟩ => ⟨he, hS'.bel hb⟩)) ?_
                      · intro W'
                        first | rfl | kernel_rfl
                      try simp only [Act.put, List.setIfInBounds_toArray, List.set_cons_zero, List.set_cons_succ, List.getElem_toArray, List.getElem_cons_zero, List.getElem_cons_succ]
                      refine wpAnyS_take (i := 7) (v := _) rfl (by kernel_rfl) (by kernel_rfl) (by kernel_rfl) (fun _ _ _ h => h) (by rfl) (gives_callF (by rfl) (by kernel_rfl) _ _ ?_ (fun d' u' W' hS' => (plus_b W' pv 1 wv).mono fun e W2 ⟨he, hb⟩ => ⟨he, hS'.bel hb⟩)) ?_
                      · intro W'
                        first | rfl | kernel_rfl
                      try simp only [Act.put, List.setIfInBounds_toArray, List.set_cons_zero, List.set_cons_succ, List.getElem_toArray, List.getElem_cons_zero, List.getElem_cons_succ]
                      refine wpAnyS_take (i := 8) (v := ?_) rfl (by kernel_rfl) (by kernel_rfl) (by kernel_rfl) (fun _ _ _ h => h) (by rfl) (gives_pureF (by rfl) (by kernel_rfl) ?_) ?_
                      rotate_left
                      · intro d' u' W' hS'
                        have p1 : W'.cell? ⟨gP, i * 2, none⟩ = some (hiOf pv) := hS'.pt.get (i * 2) (by rw [List.getElem?_toArray]; exact HQI.out ▸ wideC_hi q hi2)
                        have p2 : W'.cell? ⟨gP, i * 2 + 1, none⟩ = some (loOf pv) := hS'.pt.get (i * 2 + 1) (by rw [List.getElem?_toArray]; exact HQI.out ▸ wideC_lo q hi2)
                        go_simp
                        rfl
                      try simp only [Act.put, List.setIfInBounds_toArray, List.set_cons_zero, List.set_cons_succ, List.getElem_toArray, List.getElem_cons_zero, List.getElem_cons_succ]
                      refine wpAnyS_store (i := 9) (d := true) (fun W' => (W'.setCell ⟨gP, i * 2, none⟩ (hiOf (pv + 1))).setCell ⟨gP, i * 2 + 1, none⟩ (loOf (pv + 1))) rfl (by kernel_rfl) (by rfl) (by rfl) (by kernel_rfl) rfl ?_ (fun W' hS' => hS'.putP hi2 (pv + 1)) ?_
                      · intro W' hS'
                        have p1 : W'.cell? ⟨gP, i * 2, none⟩ = some (hiOf pv) := hS'.pt.get (i * 2) (by rw [List.getElem?_toArray]; exact HQI.out ▸ wideC_hi q hi2)
                        have p2 : W'.cell? ⟨gP, i * 2 + 1, none⟩ = some (loOf pv) := hS'.pt.get (i * 2 + 1) (by rw [List.getElem?_toArray]; exact HQI.out ▸ wideC_lo q hi2)
                        have p3 := hS'.pt.frozen (i * 2)
                        have p4 := hS'.pt.frozen (i * 2 + 1)
                        go_simp
                        try rfl
                      try simp only [Act.put, List.setIfInBounds_toArray, List.set_cons_zero, List.set_cons_succ, List.getElem_toArray, List.getElem_cons_zero, List.getElem_cons_succ]
                      refine wpAnyS_done (b := true) (d := true) (by kernel_rfl) (by kernel_rfl) (by kernel_rfl) rfl (fun wT hT => ?_) _
                      have H24 := Lib.hid (show A3I N ga gl gP n m B M3 rest al amt lf (updP q i (pv + 1)) w wT from hT)
                      clear hT E0 wv
                      have HPE : Hid (updP q i (pv + 1) i = pv + 1) := Lib.hid (by unfold updP; rw [if_pos rfl])
                      have HQ2 : Hid (∀ j, i + 1 ≤ j → j < m → updP q i (pv + 1) j = P j) := Lib.hid (fun j h1 h2 => by unfold updP; rw [if_neg (by omega)]; exact HQ.out.1 j (by omega) h2)
                      obtain ⟨q2, hq2⟩ : ∃ q2, q2 = updP q i (pv + 1) := ⟨_, rfl⟩
                      rw [← hq2] at H24 HPE HQ2
                      obtain ⟨pe, hpe⟩ : ∃ pe, pe = pv + 1 := ⟨_, rfl⟩
                      have hpeb : 0 ≤ pe ∧ pe ≤ 5000000000000000000 := by omega
                      rw [← hpe] at HPE HAF
                      clear hq2 hpe
                      cases grows
                      · have wv : W128 (bs - pe) := ⟨by omega, by omega⟩
                        go_upto_region 27 with (fail)
                        have E0 : A3I N ga gl gP n m B M3 rest al amt lf q2 w wT.drew := H24.out.bel (Below.refl _ _).drew
                        refine wp_region_S (fun b _ _ W => A3I N ga gl gP n m B (if b then (fun j => if j = kk then { M1 kk with aim := bs - pe } else M3 j) else M3) rest al amt lf q2 w W) 12 1000 100000 false true (by kernel_rfl) (by kernel_rfl) (by kernel_rfl) (E0) ?_
                        refine wpAnyS_pre (j := 0) (by kernel_rfl) ?_
                        iterate 9
                          refine wpAnyS_nx (v := ?_) rfl (by kernel_rfl) (by kernel_rfl) (by kernel_rfl) (fun _ _ _ h => h) (by rfl) (gives_pureF (by rfl) (by kernel_rfl) ?_) ?_
                          rotate_left
                          · intro d' u' W' hS'
                            have p1 : W'.cell? ⟨gP, i * 2, none⟩ = some (hiOf pe) := hS'.pt.get (i * 2) (by rw [List.getElem?_toArray]; exact HPE.out ▸ wideC_hi q2 hi2)
                            have p2 : W'.cell? ⟨gP, i * 2 + 1, none⟩ = some (loOf pe) := hS'.pt.get (i * 2 + 1) (by rw [List.getElem?_toArray]; exact HPE.out ▸ wideC_lo q2 hi2)
                            have h3 : W'.cell? ⟨B kk, 52, none⟩ = some (hiOf (M3 kk).aim) := (hS'.a.its.b kk hkn).get 52 (it_aimh _)
                            have h4 : W'.cell? ⟨B kk, 53, none⟩ = some (loOf (M3 kk).aim) := (hS'.a.its.b kk hkn).get 53 (it_aiml _)
                            rw [HMK.out.1, HMK.out.2] at h3 h4
                            go_simp
                            rfl
                          try simp only [Act.put, List.setIfInBounds_toArray, List.set_cons_zero, List.set_cons_succ, List.getElem_toArray, List.getElem_cons_zero, List.getElem_cons_succ]
                        refine wpAnyS_take (i := 9) (v := _) rfl (by kernel_rfl) (by kernel_rfl) (by kernel_rfl) (fun _ _ _ h => h) (by rfl) (gives_callF (by rfl) (by kernel_rfl) _ _ ?_ (fun d' u' W' hS' => (minus_b W' bs pe wv).mono fun e W2 ⟨he, hb⟩ => ⟨he, hS'.bel hb⟩)) ?_
                        · intro W'
                          first | rfl | kernel_rfl
                        try simp only [Act.put, List.setIfInBounds_toArray, List.set_cons_zero, List.set_cons_succ, List.getElem_toArray, List.getElem_cons_zero, List.getElem_cons_succ]
                        refine wpAnyS_pre (j := 10) (by kernel_rfl) ?_
                        iterate 2
                          refine wpAnyS_nx (v := ?_) rfl (by kernel_rfl) (by kernel_rfl) (by kernel_rfl) (fun _ _ _ h => h) (by rfl) (gives_pureF (by rfl) (by kernel_rfl) ?_) ?_
                          rotate_left
                          · intro d' u' W' hS'
                            have p1 : W'.cell? ⟨gP, i * 2, none⟩ = some (hiOf pe) := hS'.pt.get (i * 2) (by rw [List.getElem?_toArray]; exact HPE.out ▸ wideC_hi q2 hi2)
                            have p2 : W'.cell? ⟨gP, i * 2 + 1, none⟩ = some (loOf pe) := hS'.pt.get (i * 2 + 1) (by rw [List.getElem?_toArray]; exact HPE.out ▸ wideC_lo q2 hi2)
                            have h3 : W'.cell? ⟨B kk, 52, none⟩ = some (hiOf (M3 kk).aim) := (hS'.a.its.b kk hkn).get 52 (it_aimh _)
                            have h4 : W'.cell? ⟨B kk, 53, none⟩ = some (loOf (M3 kk).aim) := (hS'.a.its.b kk hkn).get 53 (it_aiml _)
                            rw [HMK.out.1, HMK.out.2] at h3 h4
                            go_simp
                            rfl
                          try simp only [Act.put, List.setIfInBounds_toArray, List.set_cons_zero, List.set_cons_succ, List.getElem_toArray, List.getElem_cons_zero, List.getElem_cons_succ]
                        refine wpAnyS_store (i := 12) (d := true) (fun W' => (W'.setCell ⟨B kk, 52, none⟩ (hiOf (bs - pe))).setCell ⟨B kk, 53, none⟩ (loOf (bs - pe))) rfl (by kernel_rfl) (by rfl) (by rfl) (by kernel_rfl) rfl ?_ (fun W' hS' => hS'.putI hkn 52 (hiOf (bs - pe)) (loOf (bs - pe)) (by show _ = (itCells { M1 kk with aim := bs - pe }).toArray; simp only [Bool.false_eq_true, if_false]; rw [HMK.out.1]; rfl)) ?_
                        · intro W' hS'
                          have h3 : W'.cell? ⟨B kk, 52, none⟩ = some (hiOf (M3 kk).aim) := (hS'.a.its.b kk hkn).get 52 (it_aimh _)
                          have h4 : W'.cell? ⟨B kk, 53, none⟩ = some (loOf (M3 kk).aim) := (hS'.a.its.b kk hkn).get 53 (it_aiml _)
                          rw [HMK.out.1, HMK.out.2] at h3 h4
                          have p3 := (hS'.a.its.b kk hkn).frozen 52
                          have p4 := (hS'.a.its.b kk hkn).frozen 53
                          go_simp
                          try rfl
                        try simp only [Act.put, List.setIfInBounds_toArray, List.set_cons_zero, List.set_cons_succ, List.getElem_toArray, List.getElem_cons_zero, List.getElem_cons_succ]
                        refine wpAnyS_done (b := true) (d := true) (by kernel_rfl) (by kernel_rfl) (by kernel_rfl) rfl (fun wU hU => ?_) _
                        have HU := Lib.hid (show A3I N ga gl gP n m B (fun j => if j = kk then { M1 kk with aim := bs - pe } else M3 j) rest al amt lf q2 w wU from hU)
                        have HMN : Hid ((fun j => if j = kk then { M1 kk with aim := bs - pe } else M3 j) = onK fa3 M1 oth (i + 1)) := Lib.hid (by
                          rw [HSC.out]
                          funext k
                          by_cases e : k = kk
                          · subst e
                            simp only [if_true]
                            rw [HF3.out]
                            simp only []
                            rw [HAF.out]
                            simp
                          · simp only [if_neg e])
                        rw [HMN.out] at HU
                        clear hU E0 wv
                        go_wp2_with fail
                        go_roundw
                        case rel => exact ⟨i + 1, by omega, by go_num, Lib.hid ⟨q2, HQ2.out, HU.out⟩⟩
                        case measure => simp [intOf] <;> omega
                      · have wv : W128 (bs + pe) := ⟨by omega, by omega⟩
                        go_upto_region 26 with (fail)
                        have E0 : A3I N ga gl gP n m B M3 rest al amt lf q2 w wT.drew := H24.out.bel (Below.refl _ _).drew
                        refine wp_region_S (fun b _ _ W => A3I N ga gl gP n m B (if b then (fun j => if j = kk then { M1 kk with aim := bs + pe } else M3 j) else M3) rest al amt lf q2 w W) 12 1000 100000 false true (by kernel_rfl) (by kernel_rfl) (by kernel_rfl) (E0) ?_
                        refine wpAnyS_pre (j := 0) (by kernel_rfl) ?_
                        iterate 9
                          refine wpAnyS_nx (v := ?_) rfl (by kernel_rfl) (by kernel_rfl) (by kernel_rfl) (fun _ _ _ h => h) (by rfl) (gives_pureF (by rfl) (by kernel_rfl) ?_) ?_
                          rotate_left
                          · intro d' u' W' hS'
                            have p1 : W'.cell? ⟨gP, i * 2, none⟩ = some (hiOf pe) := hS'.pt.get (i * 2) (by rw [List.getElem?_toArray]; exact HPE.out ▸ wideC_hi q2 hi2)
                            have p2 : W'.cell? ⟨gP, i * 2 + 1, none⟩ = some (loOf pe) := hS'.pt.get (i * 2 + 1) (by rw [List.getElem?_toArray]; exact HPE.out ▸ wideC_lo q2 hi2)
                            have h3 : W'.cell? ⟨B kk, 52, none⟩ = some (hiOf (M3 kk).aim) := (hS'.a.its.b kk hkn).get 52 (it_aimh _)
                            have h4 : W'.cell? ⟨B kk, 53, none⟩ = some (loOf (M3 kk).aim) := (hS'.a.its.b kk hkn).get 53 (it_aiml _)
                            rw [HMK.out.1, HMK.out.2] at h3 h4
                            go_simp
                            rfl
                          try simp only [Act.put, List.setIfInBounds_toArray, List.set_cons_zero, List.set_cons_succ, List.getElem_toArray, List.getElem_cons_zero, List.getElem_cons_succ]
                        refine wpAnyS_take (i := 9) (v := _) rfl (by kernel_rfl) (by kernel_rfl) (by kernel_rfl) (fun _ _ _ h => h) (by rfl) (gives_callF (by rfl) (by kernel_rfl) _ _ ?_ (fun d' u' W' hS' => (plus_b W' bs pe wv).mono fun e W2 ⟨he, hb⟩ => ⟨he, hS'.bel hb⟩)) ?_
                        · intro W'
                          first | rfl | kernel_rfl
                        try simp only [Act.put, List.setIfInBounds_toArray, List.set_cons_zero, List.set_cons_succ, List.getElem_toArray, List.getElem_cons_zero, List.getElem_cons_succ]
                        refine wpAnyS_pre (j := 10) (by kernel_rfl) ?_
                        iterate 2
                          refine wpAnyS_nx (v := ?_) rfl (by kernel_rfl) (by kernel_rfl) (by kernel_rfl) (fun _ _ _ h => h) (by rfl) (gives_pureF (by rfl) (by kernel_rfl) ?_) ?_
                          rotate_left
                          · intro d' u' W' hS'
                            have p1 : W'.cell? ⟨gP, i * 2, none⟩ = some (hiOf pe) := hS'.pt.get (i * 2) (by rw [List.getElem?_toArray]; exact HPE.out ▸ wideC_hi q2 hi2)
                            have p2 : W'.cell? ⟨gP, i * 2 + 1, none⟩ = some (loOf pe) := hS'.pt.get (i * 2 + 1) (by rw [List.getElem?_toArray]; exact HPE.out ▸ wideC_lo q2 hi2)
                            have h3 : W'.cell? ⟨B kk, 52, none⟩ = some (hiOf (M3 kk).aim) := (hS'.a.its.b kk hkn).get 52 (it_aimh _)
                            have h4 : W'.cell? ⟨B kk, 53, none⟩ = some (loOf (M3 kk).aim) := (hS'.a.its.b kk hkn).get 53 (it_aiml _)
                            rw [HMK.out.1, HMK.out.2] at h3 h4
                            go_simp
                            rfl
                          try simp only [Act.put, List.setIfInBounds_toArray, List.set_cons_zero, List.set_cons_succ, List.getElem_toArray, List.getElem_cons_zero, List.getElem_cons_succ]
                        refine wpAnyS_store (i := 12) (d := true) (fun W' => (W'.setCell ⟨B kk, 52, none⟩ (hiOf (bs + pe))).setCell ⟨B kk, 53, none⟩ (loOf (bs + pe))) rfl (by kernel_rfl) (by rfl) (by rfl) (by kernel_rfl) rfl ?_ (fun W' hS' => hS'.putI hkn 52 (hiOf (bs + pe)) (loOf (bs + pe)) (by show _ = (itCells { M1 kk with aim := bs + pe }).toArray; simp only [Bool.false_eq_true, if_false]; rw [HMK.out.1]; rfl)) ?_
                        · intro W' hS'
                          have h3 : W'.cell? ⟨B kk, 52, none⟩ = some (hiOf (M3 kk).aim) := (hS'.a.its.b kk hkn).get 52 (it_aimh _)
                          have h4 : W'.cell? ⟨B kk, 53, none⟩ = some (loOf (M3 kk).aim) := (hS'.a.its.b kk hkn).get 53 (it_aiml _)
                          rw [HMK.out.1, HMK.out.2] at h3 h4
                          have p3 := (hS'.a.its.b kk hkn).frozen 52
                          have p4 := (hS'.a.its.b kk hkn).frozen 53
                          go_simp
                          try rfl
                        try simp only [Act.put, List.setIfInBounds_toArray, List.set_cons_zero, List.set_cons_succ, List.getElem_toArray, List.getElem_cons_zero, List.getElem_cons_succ]
                        refine wpAnyS_done (b := true) (d := true) (by kernel_rfl) (by kernel_rfl) (by kernel_rfl) rfl (fun wU hU => ?_) _
                        have HU := Lib.hid (show A3I N ga gl gP n m B (fun j => if j = kk then { M1 kk with aim := bs + pe } else M3 j) rest al amt lf q2 w wU from hU)
                        have HMN : Hid ((fun j => if j = kk then { M1 kk with aim := bs + pe } else M3 j) = onK fa3 M1 oth (i + 1)) := Lib.hid (by
                          rw [HSC.out]
                          funext k
                          by_cases e : k = kk
                          · subst e
                            simp only [if_true]
                            rw [HF3.out]
                            simp only []
                            rw [HAF.out]
                            simp
                          · simp only [if_neg e])
                        rw [HMN.out] at HU
                        clear hU E0 wv
                        go_wp2_with fail
                        go_roundw
                        case rel => exact ⟨i + 1, by omega, by go_num, Lib.hid ⟨q2, HQ2.out, HU.out⟩⟩
                        case measure => simp [intOf] <;> omega
                    · have e3 : decide (0 < cmpI lf (i : Int)) = false := decide_eq_false (by unfold cmpI; split <;> (try split) <;> omega)
                      rw [if_neg c3, Int.add_zero] at HAF
                      clear c3
                      have E0 : A3I N ga gl gP n m B M3 rest al amt lf q w wr.drew := HQ.out.2.bel (Below.refl _ _).drew
                      refine wp_region_S (fun _ _ _ W => A3I N ga gl gP n m B M3 rest al amt lf q w W) 1000 1000 100000 true true (by kernel_rfl) (by kernel_rfl) (by kernel_rfl) (E0) ?_
                      refine wpAnyS_pre (j := 0) (by kernel_rfl) ?_
                      iterate 2
                        refine wpAnyS_nx (v := ?_) rfl (by kernel_rfl) (by kernel_rfl) (by kernel_rfl) (fun _ _ _ h => h) (by rfl) (gives_pure (by rfl) ?_) ?_
                        rotate_left
                        · intro b' d' u' W' hS'
                          have y1 := hS'.lf.get 0 (v := hiOf lf) rfl
                          have y2 := hS'.lf.get 1 (v := loOf lf) rfl
                          go_simp
                          rfl
                        try simp only [Act.put, List.setIfInBounds_toArray, List.set_cons_zero, List.set_cons_succ, List.getElem_toArray, List.getElem_cons_zero, List.getElem_cons_succ]
                      refine wpAnyS_take (i := 2) (v := _) rfl (by kernel_rfl) (by kernel_rfl) (by kernel_rfl) (fun _ _ _ h => h) (by rfl) (gives_call (by rfl) _ _ ?_ (fun b' d' u' W' hS' => (of_b W' (i : Int) (by omega) (by omega)).mono fun e W2 ⟨he, hb⟩ => ⟨he, hS'.bel hb⟩)) ?_
                      · intro W'
                        first | rfl | kernel_rfl
                      try simp only [Act.put, List.setIfInBounds_toArray, List.set_cons_zero, List.set_cons_succ, List.getElem_toArray, List.getElem_cons_zero, List.getElem_cons_succ]
                      refine wpAnyS_take (i := 3) (v := _) rfl (by kernel_rfl) (by kernel_rfl) (by kernel_rfl) (fun _ _ _ h => h) (by rfl) (gives_call (by rfl) _ _ ?_ (fun b' d' u' W' hS' => (against_b W' lf (i : Int)).mono fun e W2 ⟨he, hb⟩ => ⟨he, hS'.bel hb⟩)) ?_
                      · intro W'
                        first | rfl | kernel_rfl
                      try simp only [Act.put, List.setIfInBounds_toArray, List.set_cons_zero, List.set_cons_succ, List.getElem_toArray, List.getElem_cons_zero, List.getElem_cons_succ]
                      refine wpAnyS_take (i := 4) (v := ?_) rfl (by kernel_rfl) (by kernel_rfl) (by kernel_rfl) (fun _ _ _ h => h) (by rfl) (gives_pure (by rfl) ?_) ?_
                      rotate_left
                      · intro b' d' u' W' hS'
                        have y1 := hS'.lf.get 0 (v := hiOf lf) rfl
                        have y2 := hS'.lf.get 1 (v := loOf lf) rfl
                        go_simp
                        rfl
                      try simp only [Act.put, List.setIfInBounds_toArray, List.set_cons_zero, List.set_cons_succ, List.getElem_toArray, List.getElem_cons_zero, List.getElem_cons_succ]
                      refine wpAnyS_done (b := true) (d := true) (by kernel_rfl) (by kernel_rfl) (by kernel_rfl) rfl (fun wS hS => ?_) _
                      have H23 := Lib.hid (show A3I N ga gl gP n m B M3 rest al amt lf q w wS from hS)
                      clear hS E0
                      have H24 := H23
                      have HPE := HQI
                      have HQ2 : Hid (∀ j, i + 1 ≤ j → j < m → q j = P j) := Lib.hid (fun j h1 h2 => HQ.out.1 j (by omega) h2)
                      obtain ⟨q2, hq2⟩ : ∃ q2, q2 = q := ⟨_, rfl⟩
                      rw [← hq2] at H24 HPE HQ2
                      obtain ⟨pe, hpe⟩ : ∃ pe, pe = pv := ⟨_, rfl⟩
                      have hpeb : 0 ≤ pe ∧ pe ≤ 5000000000000000000 := by omega
                      rw [← hpe] at HPE HAF
                      clear hq2 hpe
                      obtain ⟨wT, hwT⟩ : ∃ wT, wT = wS := ⟨_, rfl⟩
                      rw [← hwT] at H24 ⊢
                      clear hwT
                      cases grows
                      · have wv : W128 (bs - pe) := ⟨by omega, by omega⟩
                        go_upto_region 27 with (fail)
                        have E0 : A3I N ga gl gP n m B M3 rest al amt lf q2 w wT.drew := H24.out.bel (Below.refl _ _).drew
                        refine wp_region_S (fun b _ _ W => A3I N ga gl gP n m B (if b then (fun j => if j = kk then { M1 kk with aim := bs - pe } else M3 j) else M3) rest al amt lf q2 w W) 12 1000 100000 false true (by kernel_rfl) (by kernel_rfl) (by kernel_rfl) (E0) ?_
                        refine wpAnyS_pre (j := 0) (by kernel_rfl) ?_
                        iterate 9
                          refine wpAnyS_nx (v := ?_) rfl (by kernel_rfl) (by kernel_rfl) (by kernel_rfl) (fun _ _ _ h => h) (by rfl) (gives_pureF (by rfl) (by kernel_rfl) ?_) ?_
                          rotate_left
                          · intro d' u' W' hS'
                            have p1 : W'.cell? ⟨gP, i * 2, none⟩ = some (hiOf pe) := hS'.pt.get (i * 2) (by rw [List.getElem?_toArray]; exact HPE.out ▸ wideC_hi q2 hi2)
                            have p2 : W'.cell? ⟨gP, i * 2 + 1, none⟩ = some (loOf pe) := hS'.pt.get (i * 2 + 1) (by rw [List.getElem?_toArray]; exact HPE.out ▸ wideC_lo q2 hi2)
                            have h3 : W'.cell? ⟨B kk, 52, none⟩ = some (hiOf (M3 kk).aim) := (hS'.a.its.b kk hkn).get 52 (it_aimh _)
                            have h4 : W'.cell? ⟨B kk, 53, none⟩ = some (loOf (M3 kk).aim) := (hS'.a.its.b kk hkn).get 53 (it_aiml _)
                            rw [HMK.out.1, HMK.out.2] at h3 h4
                            go_simp
                            rfl
                          try simp only [Act.put, List.setIfInBounds_toArray, List.set_cons_zero, List.set_cons_succ, List.getElem_toArray, List.getElem_cons_zero, List.getElem_cons_succ]
                        refine wpAnyS_take (i := 9) (v := _) rfl (by kernel_rfl) (by kernel_rfl) (by kernel_rfl) (fun _ _ _ h => h) (by rfl) (gives_callF (by rfl) (by kernel_rfl) _ _ ?_ (fun d' u' W' hS' => (minus_b W' bs pe wv).mono fun e W2 ⟨he, hb⟩ => ⟨he, hS'.bel hb⟩)) ?_
                        · intro W'
                          first | rfl | kernel_rfl
                        try simp only [Act.put, List.setIfInBounds_toArray, List.set_cons_zero, List.set_cons_succ, List.getElem_toArray, List.getElem_cons_zero, List.getElem_cons_succ]
                        refine wpAnyS_pre (j := 10) (by kernel_rfl) ?_
                        iterate 2
                          refine wpAnyS_nx (v := ?_) rfl (by kernel_rfl) (by kernel_rfl) (by kernel_rfl) (fun _ _ _ h => h) (by rfl) (gives_pureF (by rfl) (by kernel_rfl) ?_) ?_
                          rotate_left
                          · intro d' u' W' hS'
                            have p1 : W'.cell? ⟨gP, i * 2, none⟩ = some (hiOf pe) := hS'.pt.get (i * 2) (by rw [List.getElem?_toArray]; exact HPE.out ▸ wideC_hi q2 hi2)
                            have p2 : W'.cell? ⟨gP, i * 2 + 1, none⟩ = some (loOf pe) := hS'.pt.get (i * 2 + 1) (by rw [List.getElem?_toArray]; exact HPE.out ▸ wideC_lo q2 hi2)
                            have h3 : W'.cell? ⟨B kk, 52, none⟩ = some (hiOf (M3 kk).aim) := (hS'.a.its.b kk hkn).get 52 (it_aimh _)
                            have h4 : W'.cell? ⟨B kk, 53, none⟩ = some (loOf (M3 kk).aim) := (hS'.a.its.b kk hkn).get 53 (it_aiml _)
                            rw [HMK.out.1, HMK.out.2] at h3 h4
                            go_simp
                            rfl
                          try simp only [Act.put, List.setIfInBounds_toArray, List.set_cons_zero, List.set_cons_succ, List.getElem_toArray, List.getElem_cons_zero, List.getElem_cons_succ]
                        refine wpAnyS_store (i := 12) (d := true) (fun W' => (W'.setCell ⟨B kk, 52, none⟩ (hiOf (bs - pe))).setCell ⟨B kk, 53, none⟩ (loOf (bs - pe))) rfl (by kernel_rfl) (by rfl) (by rfl) (by kernel_rfl) rfl ?_ (fun W' hS' => hS'.putI hkn 52 (hiOf (bs - pe)) (loOf (bs - pe)) (by show _ = (itCells { M1 kk with aim := bs - pe }).toArray; simp only [Bool.false_eq_true, if_false]; rw [HMK.out.1]; rfl)) ?_
                        · intro W' hS'
                          have h3 : W'.cell? ⟨B kk, 52, none⟩ = some (hiOf (M3 kk).aim) := (hS'.a.its.b kk hkn).get 52 (it_aimh _)
                          have h4 : W'.cell? ⟨B kk, 53, none⟩ = some (loOf (M3 kk).aim) := (hS'.a.its.b kk hkn).get 53 (it_aiml _)
                          rw [HMK.out.1, HMK.out.2] at h3 h4
                          have p3 := (hS'.a.its.b kk hkn).frozen 52
                          have p4 := (hS'.a.its.b kk hkn).frozen 53
                          go_simp
                          try rfl
                        try simp only [Act.put, List.setIfInBounds_toArray, List.set_cons_zero, List.set_cons_succ, List.getElem_toArray, List.getElem_cons_zero, List.getElem_cons_succ]
                        refine wpAnyS_done (b := true) (d := true) (by kernel_rfl) (by kernel_rfl) (by kernel_rfl) rfl (fun wU hU => ?_) _
                        have HU := Lib.hid (show A3I N ga gl gP n m B (fun j => if j = kk then { M1 kk with aim := bs - pe } else M3 j) rest al amt lf q2 w wU from hU)
                        have HMN : Hid ((fun j => if j = kk then { M1 kk with aim := bs - pe } else M3 j) = onK fa3 M1 oth (i + 1)) := Lib.hid (by
                          rw [HSC.out]
                          funext k
                          by_cases e : k = kk
                          · subst e
                            simp only [if_true]
                            rw [HF3.out]
                            simp only []
                            rw [HAF.out]
                            simp
                          · simp only [if_neg e])
                        rw [HMN.out] at HU
                        clear hU E0 wv
                        go_wp2_with fail
                        go_roundw
                        case rel => exact ⟨i + 1, by omega, by go_num, Lib.hid ⟨q2, HQ2.out, HU.out⟩⟩
                        case measure => simp [intOf] <;> omega
                      · have wv : W128 (bs + pe) := ⟨by omega, by omega⟩
                        go_upto_region 26 with (fail)
                        have E0 : A3I N ga gl gP n m B M3 rest al amt lf q2 w wT.drew := H24.out.bel (Below.refl _ _).drew
                        refine wp_region_S (fun b _ _ W => A3I N ga gl gP n m B (if b then (fun j => if j = kk then { M1 kk with aim := bs + pe } else M3 j) else M3) rest al amt lf q2 w W) 12 1000 100000 false true (by kernel_rfl) (by kernel_rfl) (by kernel_rfl) (E0) ?_
                        refine wpAnyS_pre (j := 0) (by kernel_rfl) ?_
                        iterate 9
                          refine wpAnyS_nx (v := ?_) rfl (by kernel_rfl) (by kernel_rfl) (by kernel_rfl) (fun _ _ _ h => h) (by rfl) (gives_pureF (by rfl) (by kernel_rfl) ?_) ?_
                          rotate_left
                          · intro d' u' W' hS'
                            have p1 : W'.cell? ⟨gP, i * 2, none⟩ = some (hiOf pe) := hS'.pt.get (i * 2) (by rw [List.getElem?_toArray]; exact HPE.out ▸ wideC_hi q2 hi2)
                            have p2 : W'.cell? ⟨gP, i * 2 + 1, none⟩ = some (loOf pe) := hS'.pt.get (i * 2 + 1) (by rw [List.getElem?_toArray]; exact HPE.out ▸ wideC_lo q2 hi2)
                            have h3 : W'.cell? ⟨B kk, 52, none⟩ = some (hiOf (M3 kk).aim) := (hS'.a.its.b kk hkn).get 52 (it_aimh _)
                            have h4 : W'.cell? ⟨B kk, 53, none⟩ = some (loOf (M3 kk).aim) := (hS'.a.its.b kk hkn).get 53 (it_aiml _)
                            rw [HMK.out.1, HMK.out.2] at h3 h4
                            go_simp
                            rfl
                          try simp only [Act.put, List.setIfInBounds_toArray, List.set_cons_zero, List.set_cons_succ, List.getElem_toArray, List.getElem_cons_zero, List.getElem_cons_succ]
                        refine wpAnyS_take (i := 9) (v := _) rfl (by kernel_rfl) (by kernel_rfl) (by kernel_rfl) (fun _ _ _ h => h) (by rfl) (gives_callF (by rfl) (by kernel_rfl) _ _ ?_ (fun d' u' W' hS' => (plus_b W' bs pe wv).mono fun e W2 ⟨he, hb⟩ => ⟨he, hS'.bel hb⟩)) ?_
                        · intro W'
                          first | rfl | kernel_rfl
                        try simp only [Act.put, List.setIfInBounds_toArray, List.set_cons_zero, List.set_cons_succ, List.getElem_toArray, List.getElem_cons_zero, List.getElem_cons_succ]
                        refine wpAnyS_pre (j := 10) (by kernel_rfl) ?_
                        iterate 2
                          refine wpAnyS_nx (v := ?_) rfl (by kernel_rfl) (by kernel_rfl) (by kernel_rfl) (fun _ _ _ h => h) (by rfl) (gives_pureF (by rfl) (by kernel_rfl) ?_) ?_
                          rotate_left
                          · intro d' u' W' hS'
                            have p1 : W'.cell? ⟨gP, i * 2, none⟩ = some (hiOf pe) := hS'.pt.get (i * 2) (by rw [List.getElem?_toArray]; exact HPE.out ▸ wideC_hi q2 hi2)
                            have p2 : W'.cell? ⟨gP, i * 2 + 1, none⟩ = some (loOf pe) := hS'.pt.get (i * 2 + 1) (by rw [List.getElem?_toArray]; exact HPE.out ▸ wideC_lo q2 hi2)
                            have h3 : W'.cell? ⟨B kk, 52, none⟩ = some (hiOf (M3 kk).aim) := (hS'.a.its.b kk hkn).get 52 (it_aimh _)
                            have h4 : W'.cell? ⟨B kk, 53, none⟩ = some (loOf (M3 kk).aim) := (hS'.a.its.b kk hkn).get 53 (it_aiml _)
                            rw [HMK.out.1, HMK.out.2] at h3 h4
                            go_simp
                            rfl
                          try simp only [Act.put, List.setIfInBounds_toArray, List.set_cons_zero, List.set_cons_succ, List.getElem_toArray, List.getElem_cons_zero, List.getElem_cons_succ]
                        refine wpAnyS_store (i := 12) (d := true) (fun W' => (W'.setCell ⟨B kk, 52, none⟩ (hiOf (bs + pe))).setCell ⟨B kk, 53, none⟩ (loOf (bs + pe))) rfl (by kernel_rfl) (by rfl) (by rfl) (by kernel_rfl) rfl ?_ (fun W' hS' => hS'.putI hkn 52 (hiOf (bs + pe)) (loOf (bs + pe)) (by show _ = (itCells { M1 kk with aim := bs + pe }).toArray; simp only [Bool.false_eq_true, if_false]; rw [HMK.out.1]; rfl)) ?_
                        · intro W' hS'
                          have h3 : W'.cell? ⟨B kk, 52, none⟩ = some (hiOf (M3 kk).aim) := (hS'.a.its.b kk hkn).get 52 (it_aimh _)
                          have h4 : W'.cell? ⟨B kk, 53, none⟩ = some (loOf (M3 kk).aim) := (hS'.a.its.b kk hkn).get 53 (it_aiml _)
                          rw [HMK.out.1, HMK.out.2] at h3 h4
                          have p3 := (hS'.a.its.b kk hkn).frozen 52
                          have p4 := (hS'.a.its.b kk hkn).frozen 53
                          go_simp
                          try rfl
                        try simp only [Act.put, List.setIfInBounds_toArray, List.set_cons_zero, List.set_cons_succ, List.getElem_toArray, List.getElem_cons_zero, List.getElem_cons_succ]
                        refine wpAnyS_done (b := true) (d := true) (by kernel_rfl) (by kernel_rfl) (by kernel_rfl) rfl (fun wU hU => ?_) _
                        have HU := Lib.hid (show A3I N ga gl gP n m B (fun j => if j = kk then { M1 kk with aim := bs + pe } else M3 j) rest al amt lf q2 w wU from hU)
                        have HMN : Hid ((fun j => if j = kk then { M1 kk with aim := bs + pe } else M3 j) = onK fa3 M1 oth (i + 1)) := Lib.hid (by
                          rw [HSC.out]
                          funext k
                          by_cases e : k = kk
                          · subst e
                            simp only [if_true]
                            rw [HF3.out]
                            simp only []
                            rw [HAF.out]
                            simp
                          · simp only [if_neg e])
                        rw [HMN.out] at HU
                        clear hU E0 wv
                        go_wp2_with fail
                        go_roundw
                        case rel => exact ⟨i + 1, by omega, by go_num, Lib.hid ⟨q2, HQ2.out, HU.out⟩⟩
                        case measure => simp [intOf] <;> omega
                  · have g0 : decide ((i : Int) < (m : Int)) = false := decide_eq_false (by omega)
                    have g0' : decide (i < m) = false := decide_eq_false hlt
                    have hkn : i = m := by omega
                    rw [hkn] at HQ
                    have HE : Hid (∀ k, onK fa3 M1 oth m k = aimsM M oth rest grows k) := Lib.hid (fun k => by
                      rw [HM.out, onK_all, HF3.out]
                      unfold aimsM
                      simp only []
                      rw [HM1.out k]
                      by_cases hk : k ∈ oth
                      · simp only [if_pos hk]
                      · simp only [if_neg hk])
                    clear hkn hlt
                    go_wp2_with fail
                    go_end0
                    exact ⟨rfl, HQ.out.2.a.its.congr fun k _ => HE.out k, HQ.out.2.a.k⟩
end Go.Proofs.Ytbopeofglhkffaa
