/- Towers without floats, plain: what their frags say. -/
import Derived.Test.YtlebbkhhhmempaaTw
set_option linter.unusedSimpArgs false
set_option linter.unusedVariables false
namespace Go.Proofs.Ytlebbkhhhmempaa
open Go.RowKit
/-- How far a tower has come down, and the margins behind. -/
def ysR (p : Int × Stt) (r : Rw) : Int × Stt := if 0 < r.h then (p.1 + sumF (joinF p.2 r.a) + r.h, joinF ⟨0, 0⟩ r.b) else (p.1, joinF (joinF p.2 r.a) r.b)
def ysF (rs : List Rw) : Int × Stt := rs.foldl ysR (0, ⟨0, 0⟩)
def topR (p : Int × Stt) (r : Rw) : Int := p.1 + sumF (joinF p.2 r.a)
theorem rowF_ys (k : Wk) (i : Nat) (r : Rw) : ((rowF k i r).y, (rowF k i r).st) = ysR (k.y, k.st) r := by
  unfold rowF ysR; simp only; split <;> rfl
theorem rowF_fl (k : Wk) (i : Nat) (r : Rw) : (rowF k i r).fl = k.fl := by unfold rowF; simp only; split <;> rfl
theorem rowF_sp (k : Wk) (i : Nat) (r : Rw) : (rowF k i r).sp = k.sp.modify i fun _ => ⟨0, topR (k.y, k.st) r, max r.h 0, false⟩ := by
  unfold rowF topR; simp only
  split
  · rename_i h; rw [Int.max_eq_left (by omega)]
  · rename_i h; rw [Int.max_eq_right (by omega)]
theorem towF_ys : ∀ (t : List Rw) (k : Wk) (i : Nat), ((towF k i t).y, (towF k i t).st) = t.foldl ysR (k.y, k.st)
  | [], _, _ => rfl
  | r :: t, k, i => by
    show ((towF (rowF k i r) (i + 1) t).y, (towF (rowF k i r) (i + 1) t).st) = t.foldl ysR (ysR (k.y, k.st) r)
    rw [towF_ys t, rowF_ys]
theorem towF_fl : ∀ (t : List Rw) (k : Wk) (i : Nat), (towF k i t).fl = k.fl
  | [], _, _ => rfl
  | r :: t, k, i => by
    show (towF (rowF k i r) (i + 1) t).fl = _
    rw [towF_fl t, rowF_fl]
theorem towF_lt : ∀ (t : List Rw) (k : Wk) (i j : Nat), j < i → (towF k i t).sp[j]? = k.sp[j]?
  | [], _, _, _, _ => rfl
  | r :: t, k, i, j, h => by
    show (towF (rowF k i r) (i + 1) t).sp[j]? = _
    rw [towF_lt t _ _ _ (by omega), rowF_sp, List.getElem?_modify]
    have : ¬ i = j := by omega
    simp [this]
theorem towF_at : ∀ (t : List Rw) (k : Wk) (i j : Nat) (hj : j < t.length), i + t.length ≤ k.sp.length → (towF k i t).sp[i + j]? = some ⟨0, topR ((t.take j).foldl ysR (k.y, k.st)) t[j], max t[j].h 0, false⟩
  | [], _, _, _, h, _ => by simp at h
  | r :: t, k, i, 0, _, hl => by
    rw [List.length_cons] at hl
    show (towF (rowF k i r) (i + 1) t).sp[i + 0]? = _
    rw [Nat.add_zero, towF_lt t _ _ _ (by omega), rowF_sp, List.getElem?_modify, List.getElem?_eq_getElem (by omega)]
    simp
  | r :: t, k, i, j + 1, h, hl => by
    rw [List.length_cons] at hl h
    show (towF (rowF k i r) (i + 1) t).sp[i + (j + 1)]? = _
    rw [show i + (j + 1) = i + 1 + j by omega, towF_at t (rowF k i r) (i + 1) j (by omega) (by rw [rowF_len]; omega), rowF_ys]
    rfl
theorem k0_len (n : Nat) (ro : Int) : (k0F n ro).sp.length = n + 1 := by unfold k0F; simp
theorem tw_parI (p q : Int) (rs : List Rw) (i : Nat) : parI (twL p q rs) (i + 1) = 0 := by
  unfold parI
  rw [twL_succ]
  cases rs[i]? <;> rfl
def twK (p : Int) (rs : List Rw) : Wk := towF (k0F rs.length p) 1 rs
theorem tw_fr (p q : Int) (rs : List Rw) (us : List Ud) (i : Nat) (hi : i < rs.length) : frF (twL p q rs) us (twK p rs) (i + 1) = ⟨0, topR (ysF (rs.take i)) rs[i] + p, (usF us (i + 1)).w, max rs[i].h 0⟩ := by
  have h1 : spF (twK p rs) (i + 1) = ⟨0, topR (ysF (rs.take i)) rs[i], max rs[i].h 0, false⟩ := by
    unfold spF twK
    rw [Nat.add_comm i 1, towF_at rs _ 1 i hi (by rw [k0_len]; omega)]
    rfl
  have h0 : spF (twK p rs) 0 = ⟨0, -p, 0, false⟩ := by
    unfold spF twK
    rw [towF_lt rs _ 1 0 (by omega)]
    unfold k0F
    simp
  unfold frF
  rw [tw_parI, h1, h0]
  generalize topR (ysF (rs.take i)) rs[i] = T
  show Fr.mk (0 - 0) (T - -p) _ _ = Fr.mk 0 (T + p) _ _
  rw [Int.sub_neg, Int.sub_self]
theorem tw_low (p : Int) (rs : List Rw) : lowF (twK p rs) = max 0 ((ysF rs).1 + sumF (ysF rs).2) := by
  unfold lowF twK
  rw [towF_fl]
  have h := towF_ys rs (k0F rs.length p) 1
  have e : rs.foldl ysR ((k0F rs.length p).y, (k0F rs.length p).st) = ysF rs := rfl
  rw [e] at h
  show max 0 (markF _) = _
  unfold markF
  rw [← h]
theorem root_high (p q a : Int) : highF (rootS p q) a = max a 0 := rfl
theorem root_frame (p q : Int) : roofF (rootS p q) + floorF (rootS p q) = p + q := by
  show (p + 0) + (0 + q) = p + q; omega
theorem towF_B : ∀ (t : List Rw) (k : Wk) (i : Nat) (B : Int), TowB B k → 0 ≤ B → (∀ r ∈ t, RwOk r) → TowB (B + 4194304 * t.length) (towF k i t)
  | [], k, i, B, h, _, _ => by
    rw [List.length_nil, show B + 4194304 * ((0 : Nat) : Int) = B by omega]; exact h
  | r :: t, k, i, B, h, h0, hr => by
    have h1 := towF_B t (rowF k i r) (i + 1) (B + 4194304) (h.row h0 i (hr r List.mem_cons_self)) (by omega) (fun x hx => hr x (List.mem_cons_of_mem _ hx))
    rw [List.length_cons, show B + 4194304 * ((t.length + 1 : Nat) : Int) = B + 4194304 + 4194304 * (t.length : Int) by omega]
    exact h1
structure YsB (B : Int) (p : Int × Stt) : Prop where
  y : -B ≤ p.1 ∧ p.1 ≤ B
  m : 0 ≤ p.2.most ∧ p.2.most ≤ 1048576
  l : -1048576 ≤ p.2.least ∧ p.2.least ≤ 0
theorem ysF_B (rs : List Rw) (hr : ∀ r ∈ rs, RwOk r) : YsB (4194304 + 4194304 * rs.length) (ysF rs) := by
  have h := towF_B rs (k0F rs.length 0) 1 4194304 (k0_tow _ _ (by omega)) (by omega) hr
  have e := towF_ys rs (k0F rs.length 0) 1
  have e' : rs.foldl ysR ((k0F rs.length 0).y, (k0F rs.length 0).st) = ysF rs := rfl
  rw [e'] at e
  rw [← e]
  exact ⟨h.y, h.m, h.l⟩
theorem YsB.top {B : Int} {p : Int × Stt} (h : YsB B p) {r : Rw} (hr : RwOk r) : -(B + 2097152) ≤ topR p r ∧ topR p r ≤ B + 2097152 := by
  have := h.y
  have := h.m
  have := h.l
  have := hr.a
  unfold topR sumF joinF
  simp only
  omega
theorem in40_of {x : Int} (h : -1099511627776 ≤ x ∧ x ≤ 1099511627776) : in40 x = true := by unfold in40; simp only [Bool.and_eq_true, decide_eq_true_eq]; exact h
theorem tw_frB (p q : Int) (rs : List Rw) (us : List Ud) (hp : 0 ≤ p ∧ p ≤ 1048576) (hn : rs.length ≤ 100000) (hr : ∀ r ∈ rs, RwOk r) (hu : ∀ u ∈ us, in40 u.w = true) (i : Nat) (h0 : 0 < i) (hi : i < (twL p q rs).length) : frB (frF (twL p q rs) us (twK p rs) i) = true := by
  obtain ⟨i, rfl⟩ : ∃ j, i = j + 1 := ⟨i - 1, by omega⟩
  rw [twL_len] at hi
  have hi' : i < rs.length := by omega
  have h1 := (ysF_B (rs.take i) (fun r h => hr r (List.mem_of_mem_take h))).top (hr rs[i] (List.getElem_mem hi'))
  rw [List.length_take] at h1
  have h2 := (hr rs[i] (List.getElem_mem hi')).h
  have hus : in40 (usF us (i + 1)).w = true := by
    unfold usF
    by_cases h : i + 1 < us.length
    · rw [List.getElem?_eq_getElem h]; exact hu _ (List.getElem_mem h)
    · rw [List.getElem?_eq_none (by omega)]; decide
  rw [tw_fr p q rs us i hi']
  unfold frB
  simp only [hus, Bool.and_true, Bool.and_eq_true]
  exact ⟨⟨by decide, in40_of (by omega)⟩, in40_of (by omega)⟩
theorem twS_T {r : Rw} (h : RwOk r) : StyT (twS r) := by
  have := h.h
  have := h.a
  have := h.b
  refine ⟨rfl, rfl, ?_, ?_, rfl, rfl, ⟨.inr rfl, h.a⟩, ⟨.inr rfl, h.b⟩, ?_, ?_, ?_, ?_, rfl, rfl, rfl, rfl⟩
  · show (if 0 ≤ r.h then (⟨1, r.h⟩ : Ln) else ⟨0, 0⟩).k = 0 ∨ (if 0 ≤ r.h then (⟨1, r.h⟩ : Ln) else ⟨0, 0⟩).k = 1
    split
    · exact .inr rfl
    · exact .inl rfl
  · show -1048576 ≤ (if 0 ≤ r.h then (⟨1, r.h⟩ : Ln) else ⟨0, 0⟩).n ∧ (if 0 ≤ r.h then (⟨1, r.h⟩ : Ln) else ⟨0, 0⟩).n ≤ 1048576
    split
    · exact h.h
    · show -1048576 ≤ (0 : Int) ∧ (0 : Int) ≤ 1048576; omega
  all_goals show 0 ≤ (0 : Int) ∧ (0 : Int) ≤ 1048576; omega
theorem rootS_T {p q : Int} (hp : 0 ≤ p ∧ p ≤ 1048576) (hq : 0 ≤ q ∧ q ≤ 1048576) : StyT (rootS p q) := by
  refine ⟨rfl, rfl, .inl rfl, ?_, rfl, rfl, ⟨.inl rfl, ?_⟩, ⟨.inl rfl, ?_⟩, hp, ?_, ?_, hq, rfl, rfl, rfl, rfl⟩
  · show -1048576 ≤ (0 : Int) ∧ (0 : Int) ≤ 1048576; omega
  · show -1048576 ≤ (0 : Int) ∧ (0 : Int) ≤ 1048576; omega
  · show -1048576 ≤ (0 : Int) ∧ (0 : Int) ≤ 1048576; omega
  · show 0 ≤ (0 : Int) ∧ (0 : Int) ≤ 1048576; omega
  · show 0 ≤ (0 : Int) ∧ (0 : Int) ≤ 1048576; omega
theorem tw_root0 (p q : Int) (rs : List Rw) : rootF (twL p q rs) 0 = true := by unfold rootF; simp
theorem tw_trb (p q : Int) (rs : List Rw) (us : List Ud) (hs : List Int) (hp : 0 ≤ p ∧ p ≤ 1048576) (hq : 0 ≤ q ∧ q ≤ 1048576) (hn : rs.length ≤ 4095) (hr : ∀ r ∈ rs, RwOk r ∧ (r.fl = 0 ∨ r.fl = 1 ∨ r.fl = 2) ∧ (r.cl = 0 ∨ r.cl = 1 ∨ r.cl = 2 ∨ r.cl = 3)) (hul : us.length = rs.length + 1) (hsl : hs.length ≤ 4096) (hu : ∀ u ∈ us, inL u.w = true ∧ inL u.left = true ∧ inL u.right = true) : TrB (twL p q rs) us hs rs.length (rs.length + 2) := by
  refine ⟨twL_len p q rs, by rw [twL_len]; omega, by rw [twL_len]; exact hul, hsl, ?_, ?_, ?_, ?_, hu, ?_, ?_⟩
  · intro x hx
    rcases List.mem_cons.1 hx with rfl | hx
    · exact ⟨rootS_T hp hq, .inl rfl, .inl rfl⟩
    · obtain ⟨r, hm, rfl⟩ := List.mem_map.1 hx
      exact ⟨twS_T (hr r hm).1, (hr r hm).2.1, (hr r hm).2.2⟩
  · intro x hx
    rcases List.mem_cons.1 hx with rfl | hx
    · exact ⟨none, 0, 0, rfl⟩
    · obtain ⟨r, hm, rfl⟩ := List.mem_map.1 hx
      exact ⟨none, 0, 0, rfl⟩
  · intro i h h0
    obtain ⟨i, rfl⟩ : ∃ j, i = j + 1 := ⟨i - 1, by omega⟩
    have e : (twL p q rs)[i + 1]? = some (twL p q rs)[i + 1] := List.getElem?_eq_getElem h
    rw [twL_succ] at e
    rw [twL_len] at h
    rw [List.getElem?_eq_getElem (by omega)] at e
    injection e with e
    rw [← e]
    exact ⟨Int.le_refl 0, by show (0 : Int) < ((i + 1 : Nat) : Int); omega⟩
  · rw [tw_par, if_neg (by omega)]; omega
  · exact tw_dn p q rs rs.length 0 (rs.length + 2) (by omega) (by omega)
  · intro i h0 h
    rw [twL_len] at h
    exact .inl (by rw [tw_par, if_pos (by omega)])
end Go.Proofs.Ytlebbkhhhmempaa
