/- Stable sorting, walked: the comparison; insertion. -/
import Derived.Test.YtdnpobfnkdllmaaStr
import Derived.Test.YtdnpobfnkdllmaaWy
import Derived.Test.YtdnpobfnkdllmaaSty
set_option linter.unusedSimpArgs false
set_option linter.unusedVariables false
namespace Go.Proofs.Ytdnpobfnkdllmaa
open Go.RowKit
attribute [local go_sem] block_of_add

/-- The children's styles, as the comparison finds them. -/
def stysCells (l : List Sty) : List Value := l.flatMap styCells
theorem stysCells_len (l : List Sty) : (stysCells l).length = l.length * 43 := by
  induction l with
  | nil => rfl
  | cons a t ih =>
    have : stysCells (a :: t) = styCells a ++ stysCells t := by simp [stysCells]
    rw [this, List.length_append, sty_len, ih, List.length_cons]; omega
theorem stysCells_at (l : List Sty) : ∀ (k i : Nat) (hk : k < l.length), i < 43 → (stysCells l)[k * 43 + i]? = (styCells l[k])[i]? := by
  induction l with
  | nil => intro k i hk; simp at hk
  | cons a t ih =>
    intro k i hk hi
    have hc : stysCells (a :: t) = styCells a ++ stysCells t := by simp [stysCells]
    rw [hc]
    rcases k with _ | k
    · rw [List.getElem?_append_left (by rw [sty_len]; omega)]; simp
    · rw [List.getElem?_append_right (by rw [sty_len]; omega), sty_len, show (k + 1) * 43 + i - 43 = k * 43 + i by omega, ih k i (by simpa using hk) hi]
      simp
/-- A style of a slice that reads as the list (as the walk spells its places). -/
structure StAt (w : World) (B : Nat) (p : Addr) (x : Sty) : Prop where
  lt : p.block < B
  c0 : w.cell? p = some (.int .u8 x.kind)
  cs : ∀ i u, (styCells x)[i + 1]? = some u → w.cell? ⟨p.block, p.off + (i + 1), none⟩ = some u
theorem Reads.st {w : World} {B n k : Nat} {A : Option Addr} {l : List Sty} (h : Reads w B 43 A n (stysCells l)) (hn : n = l.length) (hk : k < l.length) :
    ∃ ad : Addr, A = some ad ∧ StAt w B (ad.add (k * 43)) l[k] := by
  obtain ⟨ad, e, hb, hc⟩ := h.2 (by omega)
  refine ⟨ad, e, ⟨by rw [block_of_add]; exact hb, ?_, fun i u hu => ?_⟩⟩
  · exact hc _ _ (by have := stysCells_at l k 0 hk (by omega); rw [Nat.add_zero] at this; rw [this]; rfl)
  · have hi : i + 1 < 43 := by have := (List.getElem?_eq_some_iff.1 hu).1; rw [sty_len] at this; exact this
    have ha : (⟨(ad.add (k * 43)).block, (ad.add (k * 43)).off + (i + 1), none⟩ : Addr) = ad.add (k * 43 + (i + 1)) := by
      rw [← add_of_add, show ∀ p : Addr, p.add (i + 1) = ⟨p.block, p.off + (i + 1), none⟩ from fun p => by unfold Addr.add; rw [if_neg (by omega)]]
    rw [ha]
    exact hc _ u (by rw [stysCells_at l k (i + 1) hk hi]; exact hu)
theorem sty_get37 (s : Sty) : (styCells s)[36 + 1]? = some (.int .i64 s.order) := rfl
def ordF (l : List Sty) (k : Nat) : Int := ((l[k]?).map Sty.order).getD 0
theorem ordF_at (l : List Sty) {k : Nat} (h : k < l.length) : ordF l k = l[k].order := by unfold ordF; rw [List.getElem?_eq_getElem h]; rfl
structure KdS (gk : Nat) (A : Option Addr) (ck : Nat) (l : List Sty) (B : Nat) (W : World) : Prop where
  c : W.cell? ⟨gk, 0, none⟩ = some (.slice A l.length ck)
  r : Reads W B 43 A l.length (stysCells l)
theorem KdS.kp {gk ck B : Nat} {A : Option Addr} {l : List Sty} {W W' : World} {bad : Nat → Prop} (h : KdS gk A ck l B W) (hk : Kp bad W W') (h1 : ¬ bad gk) (hB : B ≤ W.heap.size) (hn : ∀ k, bad k → B ≤ k) : KdS gk A ck l B W' :=
  ⟨(hk.cell (World.block_lt_of_cell? W _ h.c) h1).trans h.c, h.r.kp hk hB hn⟩
set_option maxRecDepth 100000 in
set_option maxHeartbeats 800000 in
theorem cmpk_any (gk ck B : Nat) (A : Option Addr) (l : List Sty) (x y : Nat) (w : World) (hx : x < l.length) (hy : y < l.length) (hn : l.length ≤ 1000000) (h : KdS gk A ck l B w) :
    Calls Try.prog 43 #[.int .i64 x, .int .i64 y, .pointer (some ⟨gk, 0, none⟩)] w fun e w' => e = .returned (.int .i64 (cmpI (ordF l x) (ordF l y))) ∧ Below w.heap.size w w' := by
  obtain ⟨ad, rfl, s1⟩ := h.r.st rfl hx
  obtain ⟨ad2, e2, s2⟩ := h.r.st rfl hy
  obtain rfl : ad = ad2 := by injection e2
  have hc := h.c
  have h1 := s1.cs 36 _ (sty_get37 l[x])
  have h2 := s2.cs 36 _ (sty_get37 l[y])
  have hx1 : (x : Int) < (l.length : Int) := by omega
  have hy1 : (y : Int) < (l.length : Int) := by omega
  have E := Lib.hid (And.intro (ordF_at l hx) (ordF_at l hy))
  clear h s1 s2
  rw [block_of_add] at h1 h2
  go_enter Try.func43, Try.ntmps43
  go_upto_region 1 with (fail)
  go_region_held (fun W => W.cell? ⟨gk, 0, none⟩ = some (.slice (some ad) l.length ck) ∧ W.cell? ⟨ad.block, (ad.add (x * 43)).off + 37, none⟩ = some (.int .i64 l[x].order) ∧ W.cell? ⟨ad.block, (ad.add (y * 43)).off + 37, none⟩ = some (.int .i64 l[y].order)) (go_keep) (first | (go_at_call 44; refine (cmp_n _ _ _).mono ?_; rintro e w' ⟨rfl, rfl⟩))
  all_goals
    go_wp2_with fail
    go_ret
    exact ⟨by rw [E.out.1, E.out.2]; rfl, (Below.refl _ _).drew⟩
end Go.Proofs.Ytdnpobfnkdllmaa
