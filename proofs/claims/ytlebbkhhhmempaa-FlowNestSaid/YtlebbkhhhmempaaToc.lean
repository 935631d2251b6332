/- Contracts: flow.Block on towers, SameFrag, Join, the example of chapter 22. -/
import Derived.Test.YtlebbkhhhmempaaTob
import Derived.Test.YtlebbkhhhmempaaJf
set_option linter.unusedSimpArgs false
set_option linter.unusedVariables false
namespace Go.Proofs.Ytlebbkhhhmempaa
open Go.RowKit
attribute [local go_sem] block_of_add
theorem own_some {w : World} {base : Nat} {e : TypeId} {size : Nat} {A : Option Addr} {c n : Nat} {xs : List Value} (h : w.ownsRow base e size (.slice A n c) n xs) (hn : 0 < n) : ∃ g, A = some ⟨g, 0, none⟩ ∧ base ≤ g ∧ g < w.heap.size := by
  rcases h.2 with ⟨_, h0⟩ | ⟨g, cap, cur, e1, hb, hg, _⟩
  · omega
  · injection e1 with e1 _ _
    refine ⟨g, e1, hb, ?_⟩
    rcases Nat.lt_or_ge g w.heap.size with h1 | h1
    · exact h1
    · rw [Array.getElem?_eq_none h1] at hg; cases hg
theorem reads_blkT {W : World} {g : Nat} {t : TypeId} {cs : List Value} {n size : Nat} (h : Blk W g t cs.toArray) (hl : cs.length = n * size) : Reads W W.heap.size size (some ⟨g, 0, none⟩) n cs :=
  ⟨hl, fun _ => ⟨_, rfl, h.lt, fun j u hu => by
    unfold Addr.add
    split
    · rename_i e; subst e; exact h.get 0 (by rw [List.getElem?_toArray]; exact hu)
    · rw [Nat.zero_add]; exact h.get j (by rw [List.getElem?_toArray]; exact hu)⟩⟩
theorem apart_ne {v v' : Value} {g i : Nat} (h : v.ownBlock = none ∨ v.ownBlock ≠ v'.ownBlock) (hg : v'.ownBlock = some g) : v.ownBlock ≠ some (⟨g, i, none⟩ : Addr).block := fun e => by
  rcases h with h | h
  · rw [e] at h; cases h
  · exact h (by rw [e, hg])
theorem usT_at (n i : Nat) : (usF (List.replicate n ⟨100, 0, 0⟩) i).left = 0 ∧ (i < n → (usF (List.replicate n ⟨100, 0, 0⟩) i).w = 100) := by
  unfold usF
  rw [List.getElem?_replicate]
  split <;> simp_all
set_option maxRecDepth 100000 in
theorem tblock_any (p q : Int) (rs : List Rw) (us : List Ud) (hs : List Int) (A A2 uA hA : Option Addr) (c m c2 uc hc : Nat) (view : Int) (w : World) (hp : 0 ≤ p ∧ p ≤ 1048576) (hq : 0 ≤ q ∧ q ≤ 1048576) (hn : rs.length ≤ 4000) (hr : ∀ r ∈ rs, RwOk r ∧ r.fl = 0 ∧ r.cl = 0) (hul : us.length = rs.length + 1) (hsl : hs.length ≤ 4096)
    (hu : ∀ u ∈ us, (0 ≤ u.w ∧ u.w ≤ 1099511627776) ∧ u.left = 0 ∧ u.right = 0) (hrn : Reads w w.heap.size 44 A (rs.length + 1) (ndsCells (twL p q rs))) (hru : Reads w w.heap.size 3 uA us.length (udsCells us)) (hrh : Reads w w.heap.size 1 hA hs.length (hs.map (Value.int .i64))) :
    Calls Try.prog 20 #[.agg #[.slice A (rs.length + 1) c, .slice A2 m c2, .int .i64 view], .int .i64 0, .slice uA us.length uc, .slice hA hs.length hc] w fun e w' => ∃ Ab cb gF gB, e = .returned (.agg (isC Ab rs.length cb gF gB (max 0 ((ysF rs).1 + sumF (ysF rs).2) + (p + q)))) ∧
      Blk w' gF 58 (frsCells ((List.range' 1 rs.length).map (frF (twL p q rs) us (twK p rs)))).toArray ∧ Below w.heap.size w w' := by
  have hlen := twL_len p q rs
  have hus : ∀ i, (usF us i).left = 0 := fun i => by
    unfold usF
    by_cases h : i < us.length
    · rw [List.getElem?_eq_getElem h]; exact (hu _ (List.getElem_mem h)).2.1
    · rw [List.getElem?_eq_none (by omega)]; rfl
  have ht : TrB (twL p q rs) us hs rs.length (rs.length + 2) := tw_trb p q rs us hs hp hq (by omega) (fun r h => ⟨(hr r h).1, .inl (hr r h).2.1, .inl (hr r h).2.2⟩) hul hsl (fun u h => by
    have := hu u h
    exact ⟨inL_far (by omega), inL_far (by omega), inL_far (by omega)⟩)
  have hB := ysF_B rs (fun r h => (hr r h).1)
  have b1 := hB.y
  have b2 := hB.m
  have b3 := hB.l
  have hH : highF (rootS p q) (lowF (twK p rs)) + (roofF (rootS p q) + floorF (rootS p q)) = max 0 ((ysF rs).1 + sumF (ysF rs).2) + (p + q) := by
    rw [root_high, tw_low, root_frame]; omega
  have h := block_any w (twL p q rs) us hs A A2 uA hA c m c2 uc hc view rs.length (rs.length + 2) 2 ht (by rw [hlen]; exact hrn) hru hrh (rootS p q) rfl (twK p rs) (by
      have e : roofF (rootS p q) = p := by show p + 0 = p; omega
      rw [e]; exact tw_cont 0 p q rs us hs p (by omega) hus (by omega) hr)
    (fun i h0 hi => tw_frB p q rs us hp (by omega) (fun r h => (hr r h).1) (fun u h => in40_of (by have := hu u h; omega)) i h0 hi)
    (by rw [hH]; refine in40_of ?_; unfold sumF; omega)
  rw [hlen, hH] at h
  exact h
theorem sameFrag_any (f : Fr) (w : World) : Calls Try.prog 24 #[.agg (frCells f).toArray, .agg (frCells f).toArray] w fun e w' => e = .returned (.bool true) ∧ Below w.heap.size w w' := by
  obtain ⟨x, y, wd, h⟩ := f
  show Calls Try.prog 24 #[.agg #[.int .i64 x, .int .i64 y, .int .i64 wd, .int .i64 h, .slice none 0 0], .agg #[.int .i64 x, .int .i64 y, .int .i64 wd, .int .i64 h, .slice none 0 0]] w _
  have ex : (x != x) = false := by simp
  have ey : (y != y) = false := by simp
  have ew : (wd != wd) = false := by simp
  have eh : (h != h) = false := by simp
  go_enter Try.func24, Try.ntmps24
  go_upto_region 4 with (fail)
  refine wp_loop0 ?_
  go_wp2_with fail
  go_ret
  exact ⟨rfl, ((Below.refl _ _).alloc (Nat.le_refl _) _).alloc (by simp) _⟩
theorem join14_any (s : Stt) (m : Int) (w : World) (h0 : 0 ≤ s.most) (h1 : s.least ≤ 0) : Calls Try.prog 21 #[.agg #[.int .i64 s.most, .int .i64 s.least], .int .i64 m] w fun e w' => e = .returned (.agg #[.int .i64 (joinF s m).most, .int .i64 (joinF s m).least]) ∧ Below w.heap.size w w' := by
  have HJ := Lib.hid (ofF_join s m h0 h1)
  obtain ⟨a, b⟩ := s
  obtain ⟨r, hr⟩ : ∃ r, r = joinF ⟨a, b⟩ m := ⟨_, rfl⟩
  rw [← hr] at HJ ⊢
  clear hr h0 h1
  obtain ⟨x, y⟩ := r
  have HO := Lib.hid (fun A c W h => of14_any [a, b, m] A c W (by simp) h)
  rw [HJ.out] at HO
  go_enter Try.func21, Try.ntmps21
  have HRD : Hid (∀ o o2 : Obj, Reads (((w.alloc o).alloc o2).alloc (.cells #[.int .i64 a, .int .i64 b, .int .i64 m] 2)) (((w.alloc o).alloc o2).alloc (.cells #[.int .i64 a, .int .i64 b, .int .i64 m] 2)).heap.size 1 (some ⟨w.heap.size + 1 + 1, 0, none⟩) 3 [.int .i64 a, .int .i64 b, .int .i64 m]) := Lib.hid (fun o o2 => reads_blkT (cs := [.int .i64 a, .int .i64 b, .int .i64 m]) (Blk.at_ _ _ _ (by simp)) rfl)
  have HBL : Hid (∀ o o2 o3 : Obj, Below w.heap.size w (((w.alloc o).alloc o2).alloc o3)) := Lib.hid (fun o o2 o3 => (((Below.refl _ _).alloc (Nat.le_refl _) _).alloc (by simp) _).alloc (by simp; omega) _)
  have HBR : Hid (∀ o : Obj, Blk (((w.alloc o).alloc (.cells #[.int .i64 0, .int .i64 0] 55)).alloc (.cells #[.int .i64 a, .int .i64 b, .int .i64 m] 2)) (w.heap.size + 1) 55 #[.int .i64 0, .int .i64 0]) := Lib.hid (fun o => (Blk.at_ _ _ _ (by simp)).alloc _)
  go_wp2_with (go_at_call 46; refine (HO.out _ _ _ (HRD.out _ _)).mono ?_; rintro e w2 ⟨rfl, hb2⟩; have HB := Lib.hid ((HBL.out _ _ _).trans (hb2.mono (HBL.out _ _ _).size)); have HR := Lib.hid ((HBR.out _).below hb2 (HBR.out _).lt); clear hb2; obtain ⟨s0, s1⟩ := HR.out.c2; have fs := HR.out.frozen)
  refine bodyPost_ret (results_cell_row rfl _ _ (w.heap.size + 1) 55 #[_, _] (0, 0) _ rfl ((HR.out.set_ 0 (.int .i64 x)).set_ 1 (.int .i64 y)) Try.underlying55 rfl (by kernel_rfl)) rfl ⟨rfl, ?_⟩
  exact (HB.out.setCell (p := ⟨w.heap.size + 1, 0, none⟩) (by simp) _).setCell (p := ⟨w.heap.size + 1, 1, none⟩) (by simp) _
/-- The rows of the example. -/
def wk1 : List (Int × Int × Int) := [(10, 0, 8), (-1, 20, -5), (10, 12, 0)]
def wk2 : List (Int × Int × Int) := [(40, 0, 0), (10, 5, 0)]
def wk2R : List Rw := [⟨40, 0, 0, 1, 0⟩, ⟨10, 5, 0, 0, 1⟩]
def wkU (n : Nat) : List Ud := List.replicate n ⟨100, 0, 0⟩
def wk2K : Wk := ⟨50, ⟨0, 0⟩, [⟨1, 0, 0, 100, 40⟩], [], [⟨0, 0, 0, false⟩, ⟨0, 0, 40, false⟩, ⟨0, 40, 10, false⟩]⟩
theorem wk2_cont : contF 2 (twL 0 0 wk2R) (wkU 3) [0, 40, 0] (k0F 2 0) 0 0 = some wk2K := by rfl
def wk1F (i : Nat) : Fr := frF (twL 0 0 (wk1.map rwOf)) (wkU 4) (twK 0 (wk1.map rwOf)) (i + 1)
def wk2F (i : Nat) : Fr := frF (twL 0 0 wk2R) (wkU 3) wk2K (i + 1)
theorem wk1_block (A A2 uA : Option Addr) (c m c2 uc : Nat) (view : Int) (w : World) (hrn : Reads w w.heap.size 44 A 4 (ndsCells (twL 0 0 (wk1.map rwOf)))) (hru : Reads w w.heap.size 3 uA 4 (udsCells (wkU 4))) :
    Calls Try.prog 20 #[.agg #[.slice A 4 c, .slice A2 m c2, .int .i64 view], .int .i64 0, .slice uA 4 uc, .slice none 0 0] w fun e w' => ∃ Ab cb gF gB, e = .returned (.agg #[.slice Ab 3 cb, .slice (some ⟨gF, 0, none⟩) 3 3, .slice (some ⟨gB, 0, none⟩) 3 3, .int .i64 35, .slice none 0 0, .bool false]) ∧
      Blk w' gF 58 (frsCells ((List.range 3).map wk1F)).toArray ∧ Below w.heap.size w w' := by
  have h := tblock_any 0 0 (wk1.map rwOf) (wkU 4) [] A A2 uA none c m c2 uc 0 view w (by decide) (by decide) (by decide) (by
    intro r hr
    have : r = rwOf (10, 0, 8) ∨ r = rwOf (-1, 20, -5) ∨ r = rwOf (10, 12, 0) := by simpa [wk1] using hr
    rcases this with rfl | rfl | rfl <;> exact ⟨⟨by decide, by decide, by decide⟩, rfl, rfl⟩) rfl (by decide) (by
    intro u hu
    have := List.eq_of_mem_replicate hu
    subst this; decide) hrn hru (Reads.none_)
  refine h.mono ?_
  rintro e w' ⟨Ab, cb, gF, gB, rfl, hb, hl⟩
  refine ⟨Ab, cb, gF, gB, ?_, hb, hl⟩
  rfl
theorem wk2_block (A A2 uA hA : Option Addr) (c m c2 uc hc : Nat) (view : Int) (w : World) (hrn : Reads w w.heap.size 44 A 3 (ndsCells (twL 0 0 wk2R))) (hru : Reads w w.heap.size 3 uA 3 (udsCells (wkU 3))) (hrh : Reads w w.heap.size 1 hA 3 [.int .i64 0, .int .i64 40, .int .i64 0]) :
    Calls Try.prog 20 #[.agg #[.slice A 3 c, .slice A2 m c2, .int .i64 view], .int .i64 0, .slice uA 3 uc, .slice hA 3 hc] w fun e w' => ∃ Ab cb gF gB, e = .returned (.agg #[.slice Ab 2 cb, .slice (some ⟨gF, 0, none⟩) 2 2, .slice (some ⟨gB, 0, none⟩) 2 2, .int .i64 50, .slice none 0 0, .bool false]) ∧
      Blk w' gF 58 (frsCells ((List.range 2).map wk2F)).toArray ∧ Below w.heap.size w w' := by
  have ht : TrB (twL 0 0 wk2R) (wkU 3) [0, 40, 0] 2 4 := tw_trb 0 0 wk2R (wkU 3) [0, 40, 0] (by decide) (by decide) (by decide) (by
    intro r hr
    have : r = ⟨40, 0, 0, 1, 0⟩ ∨ r = ⟨10, 5, 0, 0, 1⟩ := by simpa [wk2R] using hr
    rcases this with rfl | rfl <;> exact ⟨⟨by decide, by decide, by decide⟩, by decide, by decide⟩) rfl (by decide) (by
    intro u hu
    have := List.eq_of_mem_replicate hu
    subst this; decide)
  have h := block_any w (twL 0 0 wk2R) (wkU 3) [0, 40, 0] A A2 uA hA c m c2 uc hc view 2 4 2 ht hrn hru hrh (rootS 0 0) rfl wk2K wk2_cont (by
    intro i h0 hi
    have : i = 1 ∨ i = 2 := by
      have : (twL 0 0 wk2R).length = 3 := rfl
      omega
    rcases this with rfl | rfl <;> decide) (by decide)
  refine h.mono ?_
  rintro e w' ⟨Ab, cb, gF, gB, rfl, hb, hl⟩
  refine ⟨Ab, cb, gF, gB, ?_, hb, hl⟩
  rfl
theorem tower22s_any (l : List (Int × Int × Int)) (A : Option Addr) (n c : Nat) (w : World) (hl : l.length = n) (hn : n ≤ 4000) (hr : Reads w w.heap.size 3 A n (l.flatMap r3C)) :
    Calls Try.prog 19 #[.slice A n c] w fun e w' => ∃ gN cN gU cU, e = .returned (.tuple #[.agg #[.slice (some ⟨gN, 0, none⟩) (n + 1) cN, .slice none 0 0, .int .i64 100], .slice (some ⟨gU, 0, none⟩) (n + 1) cU]) ∧
      w'.ownsRow w.heap.size 71 44 (.slice (some ⟨gN, 0, none⟩) (n + 1) cN) (n + 1) (ndsCells (twL 0 0 (l.map rwOf))) ∧ w'.ownsRow w.heap.size 27 3 (.slice (some ⟨gU, 0, none⟩) (n + 1) cU) (n + 1) (udsCells (wkU (n + 1))) ∧ Below w.heap.size w w' := by
  subst hl
  refine (tower22_any l A c w hn hr).mono ?_
  rintro e w' ⟨AN, cN, AU, cU, rfl, h1, h2, h3⟩
  obtain ⟨gN, rfl, _⟩ := own_some h1 (by omega)
  obtain ⟨gU, rfl, _⟩ := own_some h2 (by omega)
  exact ⟨gN, cN, gU, cU, rfl, h1, h2, h3⟩
set_option maxRecDepth 100000 in
theorem twL1_get : ndsCells (twL 0 0 wk2R) = ((ndsCells (twL 0 0 (wk2.map rwOf))).set 47 (.int .u8 1)).set 92 (.int .u8 1) := rfl
set_option maxRecDepth 100000 in
set_option maxHeartbeats 1000000 in
theorem works22_any (w : World) : Calls Try.prog 18 #[] w fun e w' => e = .returned (.bool true) ∧ Below w.heap.size w w' := by
  have HT1 := Lib.hid (fun A c W h => tower22s_any wk1 A 3 c W rfl (by decide) h)
  have HT2 := Lib.hid (fun A c W h => tower22s_any wk2 A 2 c W rfl (by decide) h)
  have HB1 := Lib.hid wk1_block
  have HB2 := Lib.hid wk2_block
  obtain ⟨o1, ho1⟩ : ∃ o1 : Obj, o1 = .cells #[.int .i64 10, .int .i64 0, .int .i64 8, .int .i64 (-1), .int .i64 20, .int .i64 (-5), .int .i64 10, .int .i64 12, .int .i64 0] 46 := ⟨_, rfl⟩
  have HR1 : Hid (Reads (w.alloc o1) (w.alloc o1).heap.size 3 (some ⟨w.heap.size, 0, none⟩) 3 (wk1.flatMap r3C)) := Lib.hid (by rw [ho1]; exact reads_blkT (cs := wk1.flatMap r3C) (Blk.at_ _ _ _ rfl) rfl)
  have HL1 : Hid (∀ o : Obj, Below w.heap.size w (w.alloc o)) := Lib.hid (fun o => (Below.refl _ _).alloc (Nat.le_refl _) _)
  go_enter Try.func18, Try.ntmps18
  go_upto_region 2 with (rw [← ho1]; go_at_call 19; refine (HT1.out _ _ _ HR1.out).mono ?_; rintro e w1 ⟨gN, cN, gU, cU, rfl, hn, hu, hb⟩; have HN1 := Lib.hid hn; have HU1 := Lib.hid hu; have HBL1 := Lib.hid ((HL1.out _).trans (hb.mono (HL1.out _).size)); clear hn hu hb)
  clear ho1 HR1
  have HWB1 : Hid (w.heap.size ≤ w1.heap.size) := Lib.hid HBL1.out.size
  obtain ⟨gT, HGT⟩ : ∃ gT, Hid (gT = w1.heap.size) := ⟨_, Lib.hid rfl⟩
  obtain ⟨w2, hw2⟩ : ∃ w2, w2 = w1.alloc (.cells #[.slice (some ⟨gN, 0, none⟩) 4 cN, .slice none 0 0, .int .i64 100] 25) := ⟨_, rfl⟩
  have HBA : Below w1.heap.size w1 w2 := by rw [hw2]; exact (Below.refl _ _).alloc (Nat.le_refl _) _
  have HTB2 : Hid (Blk w2 gT 25 #[.slice (some ⟨gN, 0, none⟩) 4 cN, .slice none 0 0, .int .i64 100]) := Lib.hid (by rw [hw2, HGT.out]; exact Blk.new _ _ _)
  have HRN2 := Lib.hid (Reads.of_own (own_below HN1.out HBA))
  have HRU2 := Lib.hid (Reads.of_own (own_below HU1.out HBA))
  have HBL2 := Lib.hid (HBL1.out.trans (HBA.mono HBL1.out.size))
  have HGL : Hid (w.heap.size ≤ gT) := Lib.hid (by rw [HGT.out]; exact HWB1.out)
  rw [← hw2, ← HGT.out]
  clear HBA hw2 HN1 HU1 HBL1 HWB1 HGT
  have q2 := Lib.hid (HB1.out _ none _ cN 0 0 cU 100 w2 HRN2.out HRU2.out)
  obtain ⟨t0, t1, t2⟩ := HTB2.out.c3
  have hgt : gT < w2.heap.size := HTB2.out.lt
  go_upto_region 3 with (go_at_call 20; refine q2.out.mono ?_; rintro e w3 ⟨Ab, cb, gF, gB, rfl, hc, hb⟩; have HF3 := Lib.hid hc; have HTB3 := Lib.hid (HTB2.out.below hb hgt); have HBL3 := Lib.hid (HBL2.out.trans (hb.mono HBL2.out.size)); clear hc hb)
  clear q2 t0 t1 t2 hgt HRN2 HRU2 HB1
  obtain ⟨gI, HGI⟩ : ∃ gI, Hid (gI = w3.heap.size) := ⟨_, Lib.hid rfl⟩
  obtain ⟨w4, hw4⟩ : ∃ w4, w4 = w3.alloc (.cells #[.slice Ab 3 cb, .slice (some ⟨gF, 0, none⟩) 3 3, .slice (some ⟨gB, 0, none⟩) 3 3, .int .i64 35, .slice none 0 0, .bool false] 52) := ⟨_, rfl⟩
  have HBA : Hid (Below w3.heap.size w3 w4) := Lib.hid (by rw [hw4]; exact (Below.refl _ _).alloc (Nat.le_refl _) _)
  have HIB4 : Hid (Blk w4 gI 52 #[.slice Ab 3 cb, .slice (some ⟨gF, 0, none⟩) 3 3, .slice (some ⟨gB, 0, none⟩) 3 3, .int .i64 35, .slice none 0 0, .bool false]) := Lib.hid (by rw [hw4, HGI.out]; exact Blk.new _ _ _)
  have HTB4 := Lib.hid (HTB3.out.below HBA.out HTB3.out.lt)
  have HF4 := Lib.hid (HF3.out.below HBA.out HF3.out.lt)
  have HBL4 := Lib.hid (HBL3.out.trans (HBA.out.mono HBL3.out.size))
  have HGIL : Hid (w.heap.size ≤ gI) := Lib.hid (by rw [HGI.out]; exact HBL3.out.size)
  rw [← hw4, ← HGI.out]
  clear hw4 HF3 HTB3 HBL3 HBA HGI HTB2 HBL2
  obtain ⟨o2, ho2⟩ : ∃ o2 : Obj, o2 = .cells #[.int .i64 40, .int .i64 0, .int .i64 0, .int .i64 10, .int .i64 5, .int .i64 0] 46 := ⟨_, rfl⟩
  have HR2 : Hid (Reads (w4.alloc o2) (w4.alloc o2).heap.size 3 (some ⟨w4.heap.size, 0, none⟩) 2 (wk2.flatMap r3C)) := Lib.hid (by rw [ho2]; exact reads_blkT (cs := wk2.flatMap r3C) (Blk.at_ _ _ _ rfl) rfl)
  have HL4 : Hid (Below w4.heap.size w4 (w4.alloc o2)) := Lib.hid ((Below.refl _ _).alloc (Nat.le_refl _) _)
  go_upto_region 4 with (rw [← ho2]; go_at_call 19; refine (HT2.out _ _ _ HR2.out).mono ?_; rintro e w5 ⟨gM, cM, gV, cV, rfl, hn, hu, hb⟩; have HBX := Lib.hid (HL4.out.trans (hb.mono HL4.out.size)); have HN5 := Lib.hid hn; have HU5 := Lib.hid hu; have HTB5 := Lib.hid (HTB4.out.below HBX.out HTB4.out.lt); have HIB5 := Lib.hid (HIB4.out.below HBX.out HIB4.out.lt); have HF5 := Lib.hid (HF4.out.below HBX.out HF4.out.lt); have HBL5 := Lib.hid (HBL4.out.trans (HBX.out.mono HBL4.out.size)); have HLO5 : Hid (gT < (w4.alloc o2).heap.size) := Lib.hid (Nat.lt_of_lt_of_le HTB4.out.lt HL4.out.size); clear hn hu hb; obtain ⟨t0, t1, t2⟩ := HTB5.out.c3; have ft := HTB5.out.frozen)
  obtain ⟨w6, hw6⟩ : ∃ w6, w6 = (((w5.setCell ⟨gT, 0, none⟩ (.slice (some ⟨gM, 0, none⟩) 3 cM)).setCell ⟨gT, 1, none⟩ (.slice none 0 0)).setCell ⟨gT, 2, none⟩ (.int .i64 100)) := ⟨_, rfl⟩
  have HTB6 : Hid (Blk w6 gT 25 #[.slice (some ⟨gM, 0, none⟩) 3 cM, .slice none 0 0, .int .i64 100]) := Lib.hid (by rw [hw6]; exact ((HTB5.out.set_ 0 _).set_ 1 _).set_ 2 _)
  have HN6 : Hid (w6.ownsRow (w4.alloc o2).heap.size 71 44 (.slice (some ⟨gM, 0, none⟩) 3 cM) 3 (ndsCells (twL 0 0 (wk2.map rwOf)))) := Lib.hid (by rw [hw6]; exact ownsRow_setCell_below (ownsRow_setCell_below (ownsRow_setCell_below HN5.out HLO5.out _) HLO5.out _) HLO5.out _)
  have HU6 : Hid (w6.ownsRow (w4.alloc o2).heap.size 27 3 (.slice (some ⟨gV, 0, none⟩) 3 cV) 3 (udsCells (wkU 3))) := Lib.hid (by rw [hw6]; exact ownsRow_setCell_below (ownsRow_setCell_below (ownsRow_setCell_below HU5.out HLO5.out _) HLO5.out _) HLO5.out _)
  have hne1 := HIB5.out.ne_ HTB5.out (by decide)
  have hne2 := HF5.out.ne_ HTB5.out (by decide)
  have HIB6 : Hid (Blk w6 gI 52 #[.slice Ab 3 cb, .slice (some ⟨gF, 0, none⟩) 3 3, .slice (some ⟨gB, 0, none⟩) 3 3, .int .i64 35, .slice none 0 0, .bool false]) := Lib.hid (by rw [hw6]; exact ((HIB5.out.far hne1 _).far hne1 _).far hne1 _)
  have HF6 : Hid (Blk w6 gF 58 (frsCells ((List.range 3).map wk1F)).toArray) := Lib.hid (by rw [hw6]; exact ((HF5.out.far hne2 _).far hne2 _).far hne2 _)
  have HBL6 : Hid (Below w.heap.size w w6) := Lib.hid (by rw [hw6]; exact ((HBL5.out.setCell (p := ⟨gT, 0, none⟩) HGL.out _).setCell (p := ⟨gT, 1, none⟩) HGL.out _).setCell (p := ⟨gT, 2, none⟩) HGL.out _)
  have HGM : Hid (w.heap.size ≤ gM) := Lib.hid (by have := (HN6.out.lt gM rfl).1; have := HBL4.out.size; have := HL4.out.size; omega)
  rw [← hw6]
  clear hw6 hne1 hne2 t0 t1 t2 ft HTB5 HN5 HU5 HIB5 HF5 HBL5 HTB4 HIB4 HF4 HBL4 HBX HR2
  -- the first store
  obtain ⟨t0, t1, t2⟩ := HTB6.out.c3
  have c47 : w6.cell? ⟨gM, 47, none⟩ = some (.int .u8 0) := (HN6.out.cellAt 47 (by decide)).trans rfl
  have fM := HN6.out.frozenAt
  go_upto_region 5 with (fail)
  obtain ⟨w7, hw7⟩ : ∃ w7, w7 = w6.setCell ⟨gM, 47, none⟩ (.int .u8 1) := ⟨_, rfl⟩
  have hn1 := own_blk_ne HN6.out HTB6.out (by decide)
  have hn2 := own_blk_ne HN6.out HIB6.out (by decide)
  have hn3 := own_blk_ne HN6.out HF6.out (by decide)
  have hn4 := own_apart HU6.out HN6.out (by decide)
  have HTB7 : Hid (Blk w7 gT 25 #[.slice (some ⟨gM, 0, none⟩) 3 cM, .slice none 0 0, .int .i64 100]) := Lib.hid (by rw [hw7]; exact HTB6.out.far (fun e => hn1 (by rw [e]; rfl)) _)
  have HIB7 := Lib.hid (HIB6.out.far (p := ⟨gM, 47, none⟩) (fun e => hn2 (by rw [e]; rfl)) (.int .u8 1))
  have HF7 := Lib.hid (HF6.out.far (p := ⟨gM, 47, none⟩) (fun e => hn3 (by rw [e]; rfl)) (.int .u8 1))
  have HN7 := Lib.hid (HN6.out.stored 47 (.int .u8 1)).1
  have HU7 := Lib.hid (ownsRow_setCell_other HU6.out (a := ⟨gM, 47, none⟩) (apart_ne hn4 rfl) (.int .u8 1))
  have HBL7 := Lib.hid (HBL6.out.setCell (p := ⟨gM, 47, none⟩) HGM.out (.int .u8 1))
  rw [← hw7] at HIB7 HF7 HN7 HU7 HBL7 ⊢
  clear hw7 hn1 hn2 hn3 hn4 t0 t1 t2 c47 fM HTB6 HIB6 HF6 HN6 HU6 HBL6
  -- the second store
  obtain ⟨t0, t1, t2⟩ := HTB7.out.c3
  have c92 : w7.cell? ⟨gM, 92, none⟩ = some (.int .u8 0) := (HN7.out.cellAt 92 (by decide)).trans rfl
  have fM := HN7.out.frozenAt
  go_upto_region 6 with (fail)
  obtain ⟨w8, hw8⟩ : ∃ w8, w8 = w7.setCell ⟨gM, 92, none⟩ (.int .u8 1) := ⟨_, rfl⟩
  have hn1 := own_blk_ne HN7.out HTB7.out (by decide)
  have hn2 := own_blk_ne HN7.out HIB7.out (by decide)
  have hn3 := own_blk_ne HN7.out HF7.out (by decide)
  have hn4 := own_apart HU7.out HN7.out (by decide)
  have HTB8 : Hid (Blk w8 gT 25 #[.slice (some ⟨gM, 0, none⟩) 3 cM, .slice none 0 0, .int .i64 100]) := Lib.hid (by rw [hw8]; exact HTB7.out.far (fun e => hn1 (by rw [e]; rfl)) _)
  have HIB8 := Lib.hid (HIB7.out.far (p := ⟨gM, 92, none⟩) (fun e => hn2 (by rw [e]; rfl)) (.int .u8 1))
  have HF8 := Lib.hid (HF7.out.far (p := ⟨gM, 92, none⟩) (fun e => hn3 (by rw [e]; rfl)) (.int .u8 1))
  have HN8 := Lib.hid (HN7.out.stored 92 (.int .u8 1)).1
  have HU8 := Lib.hid (ownsRow_setCell_other HU7.out (a := ⟨gM, 92, none⟩) (apart_ne hn4 rfl) (.int .u8 1))
  have HBL8 := Lib.hid (HBL7.out.setCell (p := ⟨gM, 92, none⟩) HGM.out (.int .u8 1))
  rw [← hw8] at HIB8 HF8 HN8 HU8 HBL8 ⊢
  clear hw8 hn1 hn2 hn3 hn4 t0 t1 t2 c92 fM HTB7 HIB7 HF7 HN7 HU7 HBL7
  obtain ⟨t0, t1, t2⟩ := HTB8.out.c3
  have HRN8 : Hid (Reads w8 w8.heap.size 44 (some ⟨gM, 0, none⟩) 3 (ndsCells (twL 0 0 wk2R))) := Lib.hid (by rw [twL1_get]; exact Reads.of_own HN8.out)
  have HRU8 := Lib.hid (Reads.of_own HU8.out)
  obtain ⟨o3, ho3⟩ : ∃ o3 : Obj, o3 = .cells #[.int .i64 0, .int .i64 40, .int .i64 0] 2 := ⟨_, rfl⟩
  have HR3 : Hid (Reads (w8.alloc o3) (w8.alloc o3).heap.size 1 (some ⟨w8.heap.size, 0, none⟩) 3 [.int .i64 0, .int .i64 40, .int .i64 0]) := Lib.hid (by rw [ho3]; exact reads_blkT (cs := [.int .i64 0, .int .i64 40, .int .i64 0]) (Blk.at_ _ _ _ rfl) rfl)
  have HB8 : Hid (Below w8.heap.size w8 (w8.alloc o3)) := Lib.hid ((Below.refl _ _).alloc (Nat.le_refl _) _)
  have q8 := Lib.hid (HB2.out _ none _ _ cM 0 0 cV 3 100 (w8.alloc o3) ((HRN8.out.below HB8.out).more HB8.out.size) ((HRU8.out.below HB8.out).more HB8.out.size) HR3.out)
  go_upto_region 7 with (rw [← ho3]; go_at_call 20; refine q8.out.mono ?_; rintro e w9 ⟨Ab2, cb2, gF2, gB2, rfl, hc, hb⟩; have HG9 := Lib.hid hc; have HBX := Lib.hid (HB8.out.trans (hb.mono HB8.out.size)); have HF9 := Lib.hid (HF8.out.below HBX.out HF8.out.lt); have HIB9 := Lib.hid (HIB8.out.below HBX.out HIB8.out.lt); have HBL9 := Lib.hid (HBL8.out.trans (HBX.out.mono HBL8.out.size)); clear hc hb)
  clear q8 t0 t1 t2 HRN8 HRU8 HR3 HB8 HN8 HU8 HTB8 HF8 HIB8 HBL8 HBX
  obtain ⟨gJ, HGJ⟩ : ∃ gJ, Hid (gJ = w9.heap.size) := ⟨_, Lib.hid rfl⟩
  obtain ⟨w10, hw10⟩ : ∃ w10, w10 = w9.alloc (.cells #[.slice Ab2 2 cb2, .slice (some ⟨gF2, 0, none⟩) 2 2, .slice (some ⟨gB2, 0, none⟩) 2 2, .int .i64 50, .slice none 0 0, .bool false] 52) := ⟨_, rfl⟩
  have HBA : Hid (Below w9.heap.size w9 w10) := Lib.hid (by rw [hw10]; exact (Below.refl _ _).alloc (Nat.le_refl _) _)
  have HJ10 : Hid (Blk w10 gJ 52 #[.slice Ab2 2 cb2, .slice (some ⟨gF2, 0, none⟩) 2 2, .slice (some ⟨gB2, 0, none⟩) 2 2, .int .i64 50, .slice none 0 0, .bool false]) := Lib.hid (by rw [hw10, HGJ.out]; exact Blk.new _ _ _)
  have j1 := HJ10.out.get 1 (v := .slice (some ⟨gF2, 0, none⟩) 2 2) rfl
  have j3 := HJ10.out.get 3 (v := .int .i64 50) rfl
  have hi := HIB9.out.below HBA.out HIB9.out.lt
  have i1 := hi.get 1 (v := .slice (some ⟨gF, 0, none⟩) 3 3) rfl
  have i3 := hi.get 3 (v := .int .i64 35) rfl
  have f11 := (HF9.out.below HBA.out HF9.out.lt).get 11 (v := .int .i64 25) rfl
  have g6 := (HG9.out.below HBA.out HG9.out.lt).get 6 (v := .int .i64 40) rfl
  have HBL10 := Lib.hid (HBL9.out.trans (HBA.out.mono HBL9.out.size))
  rw [← hw10, ← HGJ.out]
  clear hw10 hi HBA HF9 HG9 HIB9 HBL9 HGJ HJ10
  go_wp2_with fail
  go_ret
  exact ⟨rfl, HBL10.out⟩
end Go.Proofs.Ytlebbkhhhmempaa
