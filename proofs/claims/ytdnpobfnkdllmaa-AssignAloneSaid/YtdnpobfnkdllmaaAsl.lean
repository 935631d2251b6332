/- The law AssignAlone, walked. -/
import Derived.Test.YtdnpobfnkdllmaaAsc
import Derived.Test.YtdnpobfnkdllmaaTrh
import Derived.Test.YtdnpobfnkdllmaaTrk
import Derived.Test.YtdnpobfnkdllmaaMay
set_option linter.unusedSimpArgs false
set_option linter.unusedVariables false
namespace Go.Proofs.Ytdnpobfnkdllmaa
open Go.RowKit

theorem eqU3a (a1 a2 a3 b1 b2 b3 : Int) (w : World) : (Op.equalIn 10000 39 (.agg #[.int .i64 a1, .int .i64 a2, .int .i64 a3]) (.agg #[.int .i64 b1, .int .i64 b2, .int .i64 b3])).run Try.prog w = .ok (a1 == b1 && a2 == b2 && a3 == b3) w := by
  have u2 := Try.underlying2
  have g2 := Try.isAgg2
  have z2 := Try.sizeOf2
  have hS : Try.prog.underlying 39 = some (.struct (Try.prog.fieldsOf 39)) := by kernel_rfl
  have hp : Try.prog.stoodInHeld 39 = false := by kernel_rfl
  rw [show (10000 : Nat) = 9999 + 1 from rfl, run_equalIn_agg w 9999 39 _ _ hS hp]
  simp only [Program.fieldsOf, Try.underlying39]
  go_simp
  by_cases h1 : a1 = b1 <;> by_cases h2 : a2 = b2 <;> by_cases h3 : a3 = b3 <;> simp [h1, h2, h3]
theorem guardU3a (op : BinOp) (x y : Operand) (xs ys : Array Value) (w : World) : (eqGuard op 39 x y (.agg xs) (.agg ys)).run Try.prog w = .ok () w := run_eqGuard_agg w op _ x y xs ys (by kernel_rfl)
attribute [local go_sem] block_of_add eqU3a guardU3a
/-! Wider contents make no child narrower. -/
theorem clampF_mono (s : Sty) (c : Int) {a b : Int} (h : a ≤ b) : clampF s c a ≤ clampF s c b := by
  unfold clampF
  dsimp only
  cases (resF s.maxw c).2 <;> cases (resF s.minw c).2 <;> simp only [Bool.false_eq_true, if_true, if_false] <;> omega
theorem kid_mono (s : Sty) (c : Int) {x y : Cn} (h1 : x.least ≤ y.least) (h2 : x.greatest ≤ y.greatest) : (kidU s c x).1 ≤ (kidU s c y).1 ∧ (kidU s c y).2.1 = (kidU s c x).2.1 := by
  unfold kidU kidK
  by_cases h3 : s.kind = 3
  · rw [if_pos h3, if_pos h3]; exact ⟨Int.le_refl _, rfl⟩
  · simp only [if_neg h3]
    by_cases hf : s.float ≠ 0
    · simp only [if_pos hf]
      refine ⟨?_, rfl⟩
      unfold usedN shrN
      refine cutF_mono (clampF_mono s c ?_)
      cases (resF s.w c).2 <;> simp only [Bool.false_eq_true, if_true, if_false] <;> omega
    · simp only [if_neg hf]
      exact ⟨Int.le_refl _, trivial⟩
theorem lim_w {s : Sty} (h : StyR s) : StW s := by
  have key := h.lim
  exact ⟨⟨(key _ (by simp)).1, (key _ (by simp)).2⟩, ⟨(key _ (by simp)).1, (key _ (by simp)).2⟩, ⟨(key _ (by simp)).1, (key _ (by simp)).2⟩, ⟨(key _ (by simp)).1, (key _ (by simp)).2⟩, ⟨(key _ (by simp)).1, (key _ (by simp)).2⟩, h.b⟩
/-- A content that is wider. -/
def cnMore (x : Cn) (by_ : Nat) : Cn := ⟨min (x.least + by_) 1099511627776, min (x.greatest + by_) 1099511627776, x.ol, x.og⟩
theorem gAt_in {got : List Cn} (h : MayOk got) (k : Nat) : ((0 ≤ (gAt got k).least ∧ (gAt got k).least ≤ 1099511627776) ∧ 0 ≤ (gAt got k).greatest ∧ (gAt got k).greatest ≤ 1099511627776) := by
  unfold gAt
  by_cases hk : k < got.length
  · rw [List.getElem?_eq_getElem hk]
    have := h.b k hk
    exact ⟨this 0 (by omega), this 1 (by omega)⟩
  · rw [List.getElem?_eq_none (by omega)]; simp
theorem Reads.sub {w : World} {B size n k : Nat} {ad : Addr} {xs : List Value} (h : Reads w B size (some ad) n xs) (hk : k < n) (ys : List Value) (hy : ys.length = 1 * size) (hys : ∀ j u, ys[j]? = some u → xs[k * size + j]? = some u) : Reads w B size (some (ad.add (k * size))) 1 ys := by
  refine ⟨hy, fun _ => ?_⟩
  obtain ⟨ad2, e, hb, hc⟩ := h.2 (by omega)
  injection e with e
  subst e
  exact ⟨_, rfl, by rw [block_of_add]; exact hb, fun j u hu => by rw [add_of_add]; exact hc _ u (hys j u hu)⟩
set_option maxRecDepth 100000 in
set_option maxHeartbeats 8000000 in
theorem assignAlone_any (l : List Nd) (adv : List Int) (A A2 Ag : Option Addr) (c c2 cg : Nat) (view u1 u2 u3 : Int) (got : List Cn) (by_ : Nat) (w : World)
    (hr : Reads w w.heap.size 44 A l.length (ndsCells l)) (ha : Reads w w.heap.size 1 A2 adv.length (i64s adv)) (hu : ∀ x ∈ l, ∃ Au cu, x.s.uv = .slice Au x.s.units.length cu) (hg : Reads w w.heap.size 4 Ag got.length (cnsCells got)) (hby : by_ < 65536) :
    Calls Try.prog 10 #[.agg #[.slice A l.length c, .slice A2 adv.length c2, .int .i64 view], .agg #[.int .i64 u1, .int .i64 u2, .int .i64 u3], .slice Ag got.length cg, .int .u16 (by_ : Int)] w fun e w' => e = .returned (.bool true) ∧ Below w.heap.size w w' := by
  have HSM := Lib.hid (fun W (hb : Below w.heap.size w W) => small_any l adv A A2 c c2 view W ((hr.below hb).more hb.size) ((ha.below hb).more hb.size) hu)
  have HMY := Lib.hid (fun W (hb : Below w.heap.size w W) => may_any17 got Ag cg W ((hg.below hb).more hb.size))
  have HKA := Lib.hid (fun (hn : l.length ≤ 65536) W (hb : Below w.heap.size w W) => kids_any l A A2 c adv.length c2 view W hn ((hr.below hb).more hb.size))
  have HR := Lib.hid hr
  have HG := Lib.hid hg
  have HU := Lib.hid hu
  clear hr ha hu hg
  obtain ⟨n, hne⟩ : ∃ n, n = l.length := ⟨_, rfl⟩
  rw [← hne] at HSM HKA HR ⊢
  have HN := Lib.hid hne
  clear hne
  obtain ⟨ma, hme⟩ : ∃ ma, ma = adv.length := ⟨_, rfl⟩
  rw [← hme] at HSM HKA ⊢
  clear hme
  obtain ⟨mg, hge⟩ : ∃ mg, mg = got.length := ⟨_, rfl⟩
  rw [← hge] at HMY HG ⊢
  have HMG := Lib.hid hge
  clear hge
  go_enter Try.func10, Try.ntmps10
  go_upto_region 1 with (fail)
  obtain ⟨gT, hgT⟩ : ∃ gT, gT = w.heap.size := ⟨_, rfl⟩
  obtain ⟨gU, hgU⟩ : ∃ gU, gU = w.heap.size + 1 := ⟨_, rfl⟩
  have H2 : Hid (Blk ((w.alloc (.cells #[.slice A n c, .slice A2 ma c2, .int .i64 view] 64)).alloc (.cells #[.int .i64 u1, .int .i64 u2, .int .i64 u3] 39)) gT 64 #[.slice A n c, .slice A2 ma c2, .int .i64 view] ∧ Blk ((w.alloc (.cells #[.slice A n c, .slice A2 ma c2, .int .i64 view] 64)).alloc (.cells #[.int .i64 u1, .int .i64 u2, .int .i64 u3] 39)) gU 39 #[.int .i64 u1, .int .i64 u2, .int .i64 u3] ∧ Below w.heap.size w ((w.alloc (.cells #[.slice A n c, .slice A2 ma c2, .int .i64 view] 64)).alloc (.cells #[.int .i64 u1, .int .i64 u2, .int .i64 u3] 39))) := Lib.hid
    ⟨(Blk.at_ _ _ _ hgT).alloc _, Blk.at_ _ _ _ (by rw [hgU]; simp), balW (balW (Below.refl _ _) _) _⟩
  obtain ⟨w2, hw2⟩ : ∃ w2, w2 = ((w.alloc (.cells #[.slice A n c, .slice A2 ma c2, .int .i64 view] 64)).alloc (.cells #[.int .i64 u1, .int .i64 u2, .int .i64 u3] 39)) := ⟨_, rfl⟩
  rw [← hw2] at H2 ⊢
  first | rw [← hgU] | skip
  rw [← hgT]
  try rw [show gT + 1 = gU by omega]
  clear hw2 hgT hgU
  have HBX : Hid (∀ W, Below w2.heap.size w2 W → (W.cell? ⟨gT, 0, none⟩ = some (.slice A n c) ∧ W.cell? ⟨gT, 1, none⟩ = some (.slice A2 ma c2) ∧ W.cell? ⟨gT, 2, none⟩ = some (.int .i64 view)) ∧ W.cell? ⟨gU, 0, none⟩ = some (.int .i64 u1) ∧ W.cell? ⟨gU, 1, none⟩ = some (.int .i64 u2) ∧ W.cell? ⟨gU, 2, none⟩ = some (.int .i64 u3)) := Lib.hid (fun W hb => by
    have h1 := H2.out.1.below hb H2.out.1.lt
    have h2 := H2.out.2.1.below hb H2.out.2.1.lt
    exact ⟨⟨h1.get 0 rfl, h1.get 1 rfl, h1.get 2 rfl⟩, h2.get 0 rfl, h2.get 1 rfl, h2.get 2 rfl⟩)
  have HB2 := Lib.hid H2.out.2.2
  clear H2
  obtain ⟨⟨t0, t1, t2⟩, v0, v1, v2⟩ := HBX.out w2 (Below.refl _ _)
  go_wp2_with fail
  refine (HSM.out w2 HB2.out).mono ?_
  rintro e w3 ⟨⟨b, rfl, hb⟩, hw3⟩
  have HS := Lib.hid hb
  have HB3 := Lib.hid (show Below w2.heap.size w2 w3 from hw3)
  clear hb hw3 t0 t1 t2 v0 v1 v2 HSM
  cases b
  · go_wp2_with (go_at_call 27; refine (works21_any _).mono ?_; rintro e w9 ⟨rfl, hb9⟩; have HB9 := Lib.hid ((HB2.out.trans (HB3.out.mono HB2.out.size)).trans (hb9.mono (HB2.out.trans (HB3.out.mono HB2.out.size)).size)); clear hb9)
    go_ret
    exact ⟨rfl, HB9.out⟩
  have HOK := Lib.hid (HS.out (by simp))
  clear HS
  have HBW3 := Lib.hid (HB2.out.trans (HB3.out.mono HB2.out.size))
  obtain ⟨-, v0, v1, v2⟩ := HBX.out w3 HB3.out
  go_wp2_with fail
  refine (HMY.out w3 HBW3.out).mono ?_
  rintro e w4 ⟨⟨b, rfl, hb⟩, hw4⟩
  have HS := Lib.hid hb
  have HB4 := Lib.hid (show Below w2.heap.size w2 w4 from HB3.out.trans (hw4.mono HB3.out.size))
  clear hb hw4 v0 v1 v2 HMY HB3 HBW3
  have HBW4 := Lib.hid (HB2.out.trans (HB4.out.mono HB2.out.size))
  cases b
  · go_wp2_with (go_at_call 27; refine (works21_any _).mono ?_; rintro e w9 ⟨rfl, hb9⟩; have HB9 := Lib.hid (HBW4.out.trans (hb9.mono HBW4.out.size)); clear hb9)
    go_ret
    exact ⟨rfl, HB9.out⟩
  have HMO := Lib.hid (HS.out (by simp))
  clear HS
  obtain ⟨⟨t0, t1, t2⟩, v0, v1, v2⟩ := HBX.out w4 HB4.out
  cases e1 : decide (u1 < 0)
  rotate_left
  · go_wp2_with (go_at_call 27; refine (works21_any _).mono ?_; rintro e w9 ⟨rfl, hb9⟩; have HB9 := Lib.hid (HBW4.out.trans (hb9.mono HBW4.out.size)); clear hb9)
    go_ret
    exact ⟨rfl, HB9.out⟩
  cases e2 : decide (1099511627776 < u1)
  rotate_left
  · go_wp2_with (go_at_call 27; refine (works21_any _).mono ?_; rintro e w9 ⟨rfl, hb9⟩; have HB9 := Lib.hid (HBW4.out.trans (hb9.mono HBW4.out.size)); clear hb9)
    go_ret
    exact ⟨rfl, HB9.out⟩
  have HC : Hid (CB u1) := Lib.hid ⟨by have h1 := of_decide_eq_false e1; have h2 := of_decide_eq_false e2; omega⟩
  have hn3 : n ≤ 300 := by rw [HN.out]; exact HOK.out.n
  go_upto_region 4 with (go_at_call 30; refine (HKA.out (by omega) w4 HBW4.out).mono ?_; rintro e w5 ⟨⟨ga, rfl, hka⟩, hb5⟩; rw [← HN.out]; have H5 := Lib.hid (And.intro hka (show Below w2.heap.size w2 w5 from HB4.out.trans (hb5.mono HB4.out.size))); clear hka hb5)
  clear t0 t1 t2 v0 v1 v2 e1 e2 HKA HB4 HBW4
  as_aux_lemma =>
  have HBW5 := Lib.hid (HB2.out.trans (H5.out.2.mono HB2.out.size))
  have HBY : Hid (∀ W, Below w5.heap.size w5 W → (W.cell? ⟨gT, 0, none⟩ = some (.slice A n c) ∧ W.cell? ⟨gT, 1, none⟩ = some (.slice A2 ma c2) ∧ W.cell? ⟨gT, 2, none⟩ = some (.int .i64 view)) ∧ W.cell? ⟨gU, 0, none⟩ = some (.int .i64 u1) ∧ W.cell? ⟨gU, 1, none⟩ = some (.int .i64 u2) ∧ W.cell? ⟨gU, 2, none⟩ = some (.int .i64 u3)) := Lib.hid (fun W hb => HBX.out W (H5.out.2.trans (hb.mono H5.out.2.size)))
  have HRD : Hid (∀ W, Below w5.heap.size w5 W → Reads W W.heap.size 44 A n (ndsCells l) ∧ Reads W W.heap.size 4 Ag mg (cnsCells got)) := Lib.hid (fun W hb => by
    have h := HBW5.out.trans (hb.mono HBW5.out.size)
    exact ⟨(HR.out.below h).more h.size, (HG.out.below h).more h.size⟩)
  have HKX : Hid (∀ p, p < n → ∃ Ar cr, (kidsF l p).length ≤ cr ∧ ∀ W, Below w5.heap.size w5 W → W.cell? ⟨ga, p, none⟩ = some (.slice Ar (kidsF l p).length cr) ∧ Reads W W.heap.size 1 Ar (kidsF l p).length (i64s (kidsF l p))) := Lib.hid (fun p hp => by
    obtain ⟨Ar, cr, h1, h2, h3, _⟩ := H5.out.1.at_ p (by rw [← HN.out]; exact hp)
    exact ⟨Ar, cr, h2, fun W hb => ⟨(hb.cell (p := ⟨ga, p, none⟩) H5.out.1.lt).trans h1, (h3.below hb).more hb.size⟩⟩)
  have HKM : Hid (∀ p, ∀ k ∈ kidsF l p, 0 ≤ k ∧ k < (n : Int)) := Lib.hid (fun p k hk => by obtain ⟨q, rfl, h1, _⟩ := kids_mem hk; rw [← HN.out] at h1; omega)
  have HSW : Hid (∀ p, ∀ k ∈ kidsF l p, (sD l k).kind ≠ 3 → StW (sD l k)) := Lib.hid (fun p k hk _ => by
    obtain ⟨q, rfl, h1, _⟩ := kids_mem hk
    have e : sD l (q : Int) = l[q].s := by unfold sD; rw [Int.toNat_natCast, List.getElem?_eq_getElem h1]; rfl
    rw [e]; exact lim_w (HOK.out.ok.nd q h1).sty)
  have HKL : Hid (∀ p, (kidsF l p).length ≤ n) := Lib.hid (fun p => by
    unfold kidsF
    rw [List.length_map, HN.out]
    exact Nat.le_trans (List.length_filter_le _ _) (by rw [List.length_range]; exact Nat.le_refl _))
  have HUV : Hid (∀ x ∈ l, ∃ Au nu cu, x.s.uv = .slice Au nu cu) := Lib.hid (fun x hx => by obtain ⟨Au, cu, e⟩ := HU.out x hx; exact ⟨Au, _, cu, e⟩)
  have HKU : Hid (∀ (i : Nat) (hi : i < l.length), l[i].s.kind = 1 → ∀ W, Below w5.heap.size w5 W → ∀ (Ak Ax : Option Addr) (ck cx : Nat) (ks : List Int) (xs : List Cn), Reads W W.heap.size 1 Ak ks.length (i64s ks) → (∀ k ∈ ks, k ∈ kidsF l i) → ks.length ≤ 1000 → Reads W W.heap.size 4 Ax xs.length (cnsCells xs) → (∀ x ∈ xs, (0 ≤ x.least ∧ x.least ≤ 1099511627776) ∧ 0 ≤ x.greatest ∧ x.greatest ≤ 1099511627776) →
      Calls Try.prog 31 #[.agg #[.slice A n c, .slice A2 ma c2, .int .i64 view], .int .i64 (i : Int), .agg #[.int .i64 u1, .int .i64 u2, .int .i64 u3], .slice Ak ks.length ck, .slice Ax xs.length cx] W fun e w' => KidsB l ks xs u1 W w' e) := Lib.hid (fun i hi hk W hb Ak Ax ck cx ks xs h1 h2 h3 h4 h5 => by
    have h := akids_any l i hi (by rw [← HN.out]; omega) A A2 Ak Ax c ma c2 ck cx view u1 u2 u3 ks xs W (by rw [← HN.out]; exact (HRD.out W hb).1) HUV.out hk h1 (fun k hk => by rw [← HN.out]; exact HKM.out i k (h2 k hk)) (by omega) h4 HC.out (fun k hk => HSW.out i k (h2 k hk)) h5
    rw [← HN.out] at h; exact h)
  have HKN : Hid (∀ (i : Nat) (hi : i < l.length), ∀ W, Below w5.heap.size w5 W → ∃ ad : Addr, A = some ad ∧ ad.block < W.heap.size ∧ W.cell? ⟨ad.block, (ad.add (i * 44)).off + 1, none⟩ = some (.int .u8 l[i].s.kind)) := Lib.hid (fun i hi W hb => by
    obtain ⟨ad, rfl, hnd⟩ := (HRD.out W hb).1.nd HN.out hi
    have hz := hnd.lt
    rw [block_of_add] at hz
    refine ⟨ad, rfl, hz, ?_⟩
    rw [← block_of_add ad (i * 44)]; exact hnd.cs 0 _ rfl)
  clear HBX HR HG HU HSW HKM HUV HC H5 HB2
  go_wp2_with fail
  go_loopw [10] (fun iv wr => ∃ i : Nat, i ≤ n ∧ iv = .int .i64 i ∧ Hid (Below w5.heap.size w5 wr)) (fun iv _ => n - (intOf iv).toNat)
  case atStart => exact ⟨0, by omega, rfl, Lib.hid (Below.refl _ _)⟩
  case round =>
    obtain ⟨i, hi, rfl, HJ⟩ := hrel
    obtain ⟨⟨t0, t1, t2⟩, v0, v1, v2⟩ := HBY.out wr HJ.out
    by_cases hlt : i < n
    rotate_left
    · as_aux_lemma =>
      have q0 : decide ((i : Int) < (n : Int)) = false := decide_eq_false (by omega)
      have q0' : decide (i < n) = false := decide_eq_false hlt
      have HBJ := Lib.hid (HBW5.out.trans (HJ.out.mono HBW5.out.size))
      go_wp2_with (go_at_call 27; refine (works21_any _).mono ?_; rintro e w9 ⟨rfl, hb9⟩; have HB9 := Lib.hid (HBJ.out.trans (hb9.mono HBJ.out.size)); clear hb9)
      go_ret
      exact ⟨rfl, HB9.out⟩
    have q0 : decide ((i : Int) < (n : Int)) = true := decide_eq_true (by omega)
    have q0' : decide (i < n) = true := decide_eq_true hlt
    have hii : (i : Int) < (n : Int) := by omega
    have hi0 : (0 : Int) ≤ (i : Int) := by omega
    have wi : IntKind.i64.wrap ((i : Int) + 1) = (i : Int) + 1 := IntWalk.i64_in _ ⟨by omega, by omega⟩
    have hil : i < l.length := by rw [← HN.out]; exact hlt
    obtain ⟨kd, hkd⟩ : ∃ kd, kd = l[i].s.kind := ⟨_, rfl⟩
    obtain ⟨ad, rfl, hadb, k1⟩ := HKN.out i hil wr HJ.out
    rw [← hkd] at k1
    by_cases hk1 : kd = 1
    rotate_left
    · as_aux_lemma =>
      have ek : (kd == 1) = false := beq_eq_false_iff_ne.2 hk1
      have ek2 : (kd != 1) = true := by rw [bne, ek]; rfl
      clear hk1
      go_wp2_with fail
      go_roundw
      case rel => exact ⟨i + 1, by omega, by go_num, HJ⟩
      case measure => simp [intOf] <;> omega
    as_aux_lemma =>
    have HKI := Lib.hid (HKU.out i hil (by rw [← hkd]; exact hk1))
    subst hk1
    clear hkd
    have ek2 : ((1 : Int) != 1) = false := by decide
    obtain ⟨ks, hks⟩ : ∃ ks, ks = kidsF l i := ⟨_, rfl⟩
    obtain ⟨Ar, cr, hcr, hrow⟩ := HKX.out i hlt
    have hpl := HKL.out i
    rw [← hks] at HKI hcr hrow hpl
    have HKS := Lib.hid hks
    have HRW := Lib.hid hrow
    clear hks hrow
    obtain ⟨p, hp⟩ : ∃ p, p = ks.length := ⟨_, rfl⟩
    rw [← hp] at hcr HRW hpl
    have HP := Lib.hid hp
    clear hp
    have hmk := fun W => make_cns p (by omega) W
    have f1 := (HRW.out wr HJ.out).1
    obtain ⟨v62, hcp⟩ := run_copy_cns (P := Try.prog) wr 43 43 3 53 el_cn.ht (by kernel_rfl) p cg got 53 (by rw [← HMG.out]; exact (HRD.out wr HJ.out).2) (Nat.le_refl _)
    rw [← HMG.out] at hcp
    go_upto_region 10 with (fail)
    obtain ⟨gm, hgm⟩ : ∃ gm, gm = wr.heap.size := ⟨_, rfl⟩
    have H6 : Hid (Blk (wr.alloc (.cells (cnsCells (allF got p)).toArray 53)) gm 53 (cnsCells (allF got p)).toArray ∧ Below w5.heap.size w5 (wr.alloc (.cells (cnsCells (allF got p)).toArray 53))) := Lib.hid ⟨Blk.at_ _ _ _ hgm, HJ.out.alloc HJ.out.size _⟩
    obtain ⟨w6, hw6⟩ : ∃ w6, w6 = wr.alloc (.cells (cnsCells (allF got p)).toArray 53) := ⟨_, rfl⟩
    rw [← hw6] at H6 ⊢
    rw [← hgm]
    clear hw6 hgm hcp hmk f1 t0 t1 t2 v0 v1 v2 k1 hadb q0 q0'
    have HXL : Hid ((allF got p).length = p ∧ ∀ x ∈ allF got p, (0 ≤ x.least ∧ x.least ≤ 1099511627776) ∧ 0 ≤ x.greatest ∧ x.greatest ≤ 1099511627776) := Lib.hid ⟨allF_len got p, fun x hx => by
      obtain ⟨j, hj, rfl⟩ := List.mem_iff_getElem.1 hx
      rw [allF_at]; exact gAt_in HMO.out j⟩
    have HFX : Hid (∀ W, Below w6.heap.size w6 W → (W.cell? ⟨gT, 0, none⟩ = some (.slice (some ad) n c) ∧ W.cell? ⟨gT, 1, none⟩ = some (.slice A2 ma c2) ∧ W.cell? ⟨gT, 2, none⟩ = some (.int .i64 view)) ∧ (W.cell? ⟨gU, 0, none⟩ = some (.int .i64 u1) ∧ W.cell? ⟨gU, 1, none⟩ = some (.int .i64 u2) ∧ W.cell? ⟨gU, 2, none⟩ = some (.int .i64 u3)) ∧ W.cell? ⟨ga, i, none⟩ = some (.slice Ar p cr)) := Lib.hid (fun W hb => by
      have h := H6.out.2.trans (hb.mono H6.out.2.size)
      exact ⟨(HBY.out W h).1, (HBY.out W h).2, (HRW.out W h).1⟩)
    have HK1 : Hid (∀ W, Below w6.heap.size w6 W → Calls Try.prog 31 #[.agg #[.slice (some ad) n c, .slice A2 ma c2, .int .i64 view], .int .i64 (i : Int), .agg #[.int .i64 u1, .int .i64 u2, .int .i64 u3], .slice Ar p cr, .slice (some ⟨gm, 0, none⟩) p p] W fun e w' => KidsB l ks (allF got p) u1 W w' e) := Lib.hid (fun W hb => by
      have h := H6.out.2.trans (hb.mono H6.out.2.size)
      have hx := Reads.of_blkC (n := p) (size := 4) (H6.out.1.below hb H6.out.1.lt) (by rw [cnsCells_len, HXL.out.1])
      have := HKI.out W h Ar (some ⟨gm, 0, none⟩) cr p ks (allF got p) (by rw [← HP.out]; exact (HRW.out W h).2) (fun k hk => hk) (by rw [← HP.out]; omega) (by rw [HXL.out.1]; exact hx) HXL.out.2
      rw [← HP.out, HXL.out.1] at this; exact this)
    have E0 : Below w6.heap.size w6 w6.drew := (Below.refl _ _).drew
    refine wp_region_held_drew (S := fun W => Below w6.heap.size w6 W) (by kernel_rfl) E0 (fun hS => ?_)
    refine wpAnyH_take (i := 0) (v := ?_) rfl (by kernel_rfl) (by kernel_rfl) (by kernel_rfl) (fun _ _ _ h => h) (Or.inl ⟨by rfl, ?_⟩) hS ?_
    rotate_left
    · intro W' hS'
      have hf := HFX.out W' hS'; obtain ⟨⟨t0, t1, t2⟩, ⟨v0, v1, v2⟩, f1⟩ := hf; go_simp
      rfl
    try simp only [Act.put, List.setIfInBounds_toArray, List.set_cons_zero, List.set_cons_succ, List.getElem_toArray, List.getElem_cons_zero, List.getElem_cons_succ]
    refine wpAnyH_take (i := 1) (v := ?_) rfl (by kernel_rfl) (by kernel_rfl) (by kernel_rfl) (fun _ _ _ h => h) (Or.inl ⟨by rfl, ?_⟩) hS ?_
    rotate_left
    · intro W' hS'
      have hf := HFX.out W' hS'; obtain ⟨⟨t0, t1, t2⟩, ⟨v0, v1, v2⟩, f1⟩ := hf; go_simp
      rfl
    try simp only [Act.put, List.setIfInBounds_toArray, List.set_cons_zero, List.set_cons_succ, List.getElem_toArray, List.getElem_cons_zero, List.getElem_cons_succ]
    refine wpAnyH_take (i := 2) (v := ?_) rfl (by kernel_rfl) (by kernel_rfl) (by kernel_rfl) (fun _ _ _ h => h) (Or.inl ⟨by rfl, ?_⟩) hS ?_
    rotate_left
    · intro W' hS'
      have hf := HFX.out W' hS'; obtain ⟨⟨t0, t1, t2⟩, ⟨v0, v1, v2⟩, f1⟩ := hf; go_simp
      rfl
    try simp only [Act.put, List.setIfInBounds_toArray, List.set_cons_zero, List.set_cons_succ, List.getElem_toArray, List.getElem_cons_zero, List.getElem_cons_succ]
    refine wpAnyH_take (i := 3) (v := ?_) rfl (by kernel_rfl) (by kernel_rfl) (by kernel_rfl) (fun _ _ _ h => h) (Or.inl ⟨by rfl, ?_⟩) hS ?_
    rotate_left
    · intro W' hS'
      have hf := HFX.out W' hS'; obtain ⟨⟨t0, t1, t2⟩, ⟨v0, v1, v2⟩, f1⟩ := hf; go_simp
      rfl
    try simp only [Act.put, List.setIfInBounds_toArray, List.set_cons_zero, List.set_cons_succ, List.getElem_toArray, List.getElem_cons_zero, List.getElem_cons_succ]
    refine wpAnyH_take (i := 4) (v := ?_) rfl (by kernel_rfl) (by kernel_rfl) (by kernel_rfl) (fun _ _ _ h => h) (Or.inl ⟨by rfl, ?_⟩) hS ?_
    rotate_left
    · intro W' hS'
      have hf := HFX.out W' hS'; obtain ⟨⟨t0, t1, t2⟩, ⟨v0, v1, v2⟩, f1⟩ := hf; go_simp
      rfl
    try simp only [Act.put, List.setIfInBounds_toArray, List.set_cons_zero, List.set_cons_succ, List.getElem_toArray, List.getElem_cons_zero, List.getElem_cons_succ]
    refine wpAnyH_take (i := 5) (v := ?_) rfl (by kernel_rfl) (by kernel_rfl) (by kernel_rfl) (fun _ _ _ h => h) (Or.inl ⟨by rfl, ?_⟩) hS ?_
    rotate_left
    · intro W' hS'
      have hf := HFX.out W' hS'; obtain ⟨⟨t0, t1, t2⟩, ⟨v0, v1, v2⟩, f1⟩ := hf; go_simp
      rfl
    try simp only [Act.put, List.setIfInBounds_toArray, List.set_cons_zero, List.set_cons_succ, List.getElem_toArray, List.getElem_cons_zero, List.getElem_cons_succ]
    refine wpAnyH_take (i := 6) (v := ?_) rfl (by kernel_rfl) (by kernel_rfl) (by kernel_rfl) (fun _ _ _ h => h) (Or.inl ⟨by rfl, ?_⟩) hS ?_
    rotate_left
    · intro W' hS'
      have hf := HFX.out W' hS'; obtain ⟨⟨t0, t1, t2⟩, ⟨v0, v1, v2⟩, f1⟩ := hf; go_simp
      rfl
    try simp only [Act.put, List.setIfInBounds_toArray, List.set_cons_zero, List.set_cons_succ, List.getElem_toArray, List.getElem_cons_zero, List.getElem_cons_succ]
    refine wpAnyH_take (i := 7) (v := ?_) rfl (by kernel_rfl) (by kernel_rfl) (by kernel_rfl) (fun _ _ _ h => h) (Or.inl ⟨by rfl, ?_⟩) hS ?_
    rotate_left
    · intro W' hS'
      have hf := HFX.out W' hS'; obtain ⟨⟨t0, t1, t2⟩, ⟨v0, v1, v2⟩, f1⟩ := hf; go_simp
      rfl
    try simp only [Act.put, List.setIfInBounds_toArray, List.set_cons_zero, List.set_cons_succ, List.getElem_toArray, List.getElem_cons_zero, List.getElem_cons_succ]
    refine wpAnyH_ready (rs := [8]) (by kernel_rfl) (by simp) (AllReadyH.cons rfl (fun K hK => ?_) AllReadyH.nil)
    go_simp
    refine (HK1.out _ hS).mono ?_
    rintro e w7 ⟨⟨gu1, gb1, he, hu7, hb7, -, -⟩, hbb⟩
    rw [← HP.out] at he hu7 hb7
    subst he
    have hS7 : Below w6.heap.size w6 w7 := hS.trans (hbb.mono hS.size)
    clear hbb
    refine hK.out _ _ hS7 (fun hS => ?_)
    try simp only [Act.put, List.setIfInBounds_toArray, List.set_cons_zero, List.set_cons_succ, List.getElem_toArray, List.getElem_cons_zero, List.getElem_cons_succ]
    clear hK
    refine wpAnyH_take (i := 9) (v := ?_) rfl (by kernel_rfl) (by kernel_rfl) (by kernel_rfl) (fun _ _ _ h => h) (Or.inl ⟨by rfl, ?_⟩) hS ?_
    rotate_left
    · intro W' hS'
      go_simp
      rfl
    try simp only [Act.put, List.setIfInBounds_toArray, List.set_cons_zero, List.set_cons_succ, List.getElem_toArray, List.getElem_cons_zero, List.getElem_cons_succ]
    refine wpAnyH_take (i := 10) (v := ?_) rfl (by kernel_rfl) (by kernel_rfl) (by kernel_rfl) (fun _ _ _ h => h) (Or.inl ⟨by rfl, ?_⟩) hS ?_
    rotate_left
    · intro W' hS'
      go_simp
      rfl
    try simp only [Act.put, List.setIfInBounds_toArray, List.set_cons_zero, List.set_cons_succ, List.getElem_toArray, List.getElem_cons_zero, List.getElem_cons_succ]
    refine wpAnyH_take (i := 11) (v := ?_) rfl (by kernel_rfl) (by kernel_rfl) (by kernel_rfl) (fun _ _ _ h => h) (Or.inl ⟨by rfl, ?_⟩) hS ?_
    rotate_left
    · intro W' hS'
      go_simp
      rfl
    try simp only [Act.put, List.setIfInBounds_toArray, List.set_cons_zero, List.set_cons_succ, List.getElem_toArray, List.getElem_cons_zero, List.getElem_cons_succ]
    refine wpAnyH_take (i := 12) (v := ?_) rfl (by kernel_rfl) (by kernel_rfl) (by kernel_rfl) (fun _ _ _ h => h) (Or.inl ⟨by rfl, ?_⟩) hS ?_
    rotate_left
    · intro W' hS'
      go_simp
      rfl
    try simp only [Act.put, List.setIfInBounds_toArray, List.set_cons_zero, List.set_cons_succ, List.getElem_toArray, List.getElem_cons_zero, List.getElem_cons_succ]
    refine wpAnyH_take (i := 13) (v := ?_) rfl (by kernel_rfl) (by kernel_rfl) (by kernel_rfl) (fun _ _ _ h => h) (Or.inl ⟨by rfl, ?_⟩) hS ?_
    rotate_left
    · intro W' hS'
      go_simp
      rfl
    try simp only [Act.put, List.setIfInBounds_toArray, List.set_cons_zero, List.set_cons_succ, List.getElem_toArray, List.getElem_cons_zero, List.getElem_cons_succ]
    refine wpAnyH_done (by kernel_rfl) ?_ _
    have H7 := Lib.hid (And.intro hu7 (And.intro hb7 hS7))
    clear hS E0 hu7 hb7 hS7 HK1
    have f1 := (HFX.out w7 H7.out.2.2).2.2
    go_upto_region 13 with (fail)
    clear f1
    as_aux_lemma =>
    go_wp2_with fail
    obtain ⟨wx, rfl⟩ : ∃ wx, wx = wr := ⟨_, rfl⟩
    go_loopw [14] (fun kv wr => ∃ k : Nat, k ≤ p ∧ kv = .int .i64 k ∧ Hid (Below w7.heap.size w7 wr)) (fun kv _ => p - (intOf kv).toNat)
    case atStart => exact ⟨0, by omega, rfl, Lib.hid (Below.refl _ _)⟩
    case round =>
      obtain ⟨k, hk, rfl, HJ2⟩ := hrel
      have HJ6 := Lib.hid (show Below w6.heap.size w6 wr from H7.out.2.2.trans (HJ2.out.mono H7.out.2.2.size))
      by_cases hl2 : k < p
      rotate_left
      · as_aux_lemma =>
        have q0 : decide ((k : Int) < (p : Int)) = false := decide_eq_false (by omega)
        have q0' : decide (k < p) = false := decide_eq_false hl2
        have f1 := (HFX.out wr HJ6.out).2.2
        go_wp2_with fail
        go_roundw
        case rel => exact ⟨i + 1, by omega, by go_num, Lib.hid (H6.out.2.trans (HJ6.out.mono H6.out.2.size))⟩
        case measure => simp [intOf] <;> omega
      as_aux_lemma =>
      have q0 : decide ((k : Int) < (p : Int)) = true := decide_eq_true (by omega)
      have q0' : decide (k < p) = true := decide_eq_true hl2
      have hki : (k : Int) < (p : Int) := by omega
      have hk0 : (0 : Int) ≤ (k : Int) := by omega
      have wk : IntKind.i64.wrap ((k : Int) + 1) = (k : Int) + 1 := IntWalk.i64_in _ ⟨by omega, by omega⟩
      have hkl : k < ks.length := by rw [← HP.out]; exact hl2
      obtain ⟨kk, hkk⟩ : ∃ kk, kk = ks[k] := ⟨_, rfl⟩
      have HKK : Hid (kk ∈ ks ∧ ksAt ks k = kk ∧ ∀ W, Below w5.heap.size w5 W → ∃ ar : Addr, Ar = some ar ∧ Reads W W.heap.size 1 (some (ar.add k)) 1 (i64s [kk])) := Lib.hid (by
        refine ⟨by rw [hkk]; exact List.getElem_mem hkl, by unfold ksAt; rw [List.getElem?_eq_getElem hkl, hkk]; rfl, fun W hb => ?_⟩
        have h := (HRW.out W hb).2
        obtain ⟨ar, rfl, _, _⟩ := h.2 (by omega)
        refine ⟨ar, rfl, ?_⟩
        have := h.sub hl2 (i64s [kk]) rfl (fun j u hu => by
          have hj : j < 1 := by have := (List.getElem?_eq_some_iff.1 hu).1; simpa [i64s] using this
          obtain rfl : j = 0 := by omega
          rw [Nat.mul_one, Nat.add_zero]
          have : u = .int .i64 kk := by simpa [i64s] using hu.symm
          rw [this, hkk]; simp [i64s, hkl])
        rw [Nat.mul_one] at this; exact this)
      obtain ⟨ar, rfl, _⟩ := HKK.out.2.2 wr (H6.out.2.trans (HJ6.out.mono H6.out.2.size))
      obtain ⟨x, hxe⟩ : ∃ x, x = gAt got k := ⟨_, rfl⟩
      have hxb := gAt_in HMO.out k
      rw [← hxe] at hxb
      have eX : (allF got p)[k]'(by rw [HXL.out.1]; exact hl2) = x := by rw [hxe]; exact allF_at got p k _
      have HGX : Hid (gAt (allF got p) k = x) := Lib.hid (by unfold gAt; rw [List.getElem?_eq_getElem (by rw [HXL.out.1]; exact hl2), eX]; rfl)
      have HXC : Hid (∀ W, Below w6.heap.size w6 W → (Reads W W.heap.size 4 (some ⟨gm, k * 4, none⟩) 1 (cnsCells [x])) ∧ W.cell? ⟨gm, k * 4, none⟩ = some (.int .i64 x.least) ∧ W.cell? ⟨gm, k * 4 + 1, none⟩ = some (.int .i64 x.greatest) ∧ W.cell? ⟨gm, k * 4 + 2, none⟩ = some (.int .i64 x.ol) ∧ W.cell? ⟨gm, k * 4 + 3, none⟩ = some (.int .i64 x.og)) := Lib.hid (fun W hb => by
        have h := H6.out.1.below hb H6.out.1.lt
        have hat : ∀ j, j < 4 → (cnsCells (allF got p))[k * 4 + j]? = (cnCells x)[j]? := fun j hj => by rw [cnsCells_at _ k j (by rw [HXL.out.1]; exact hl2) hj, eX]
        refine ⟨⟨rfl, fun _ => ⟨_, rfl, h.lt, fun j u hu => ?_⟩⟩, ?_, ?_, ?_, ?_⟩
        · have hj : j < 4 := (List.getElem?_eq_some_iff.1 hu).1
          have ha : (⟨gm, k * 4, none⟩ : Addr).add j = ⟨gm, k * 4 + j, none⟩ := by unfold Addr.add; split <;> simp_all
          rw [ha]; exact h.get _ (by rw [List.getElem?_toArray, hat j hj]; simpa [cnsCells] using hu)
        · exact h.get _ (by rw [List.getElem?_toArray]; exact hat 0 (by omega))
        · exact h.get _ (by rw [List.getElem?_toArray]; exact hat 1 (by omega))
        · exact h.get _ (by rw [List.getElem?_toArray]; exact hat 2 (by omega))
        · exact h.get _ (by rw [List.getElem?_toArray]; exact hat 3 (by omega)))
      obtain ⟨s, hse⟩ : ∃ s, s = sD l kk := ⟨_, rfl⟩
      obtain ⟨a1, a2, a3, hA⟩ : ∃ a1 a2 a3, kidU s u1 x = (a1, a2, a3) := ⟨_, _, _, rfl⟩
      obtain ⟨ab, hAB⟩ : ∃ ab, kidB s u1 x = ab := ⟨_, rfl⟩
      obtain ⟨m1, m2, m3, hM⟩ : ∃ m1 m2 m3, kidU s u1 (cnMore x by_) = (m1, m2, m3) := ⟨_, _, _, rfl⟩
      have hmono := kid_mono s u1 (x := x) (y := cnMore x by_) (by show x.least ≤ min (x.least + by_) 1099511627776; omega) (by show x.greatest ≤ min (x.greatest + by_) 1099511627776; omega)
      rw [hA, hM] at hmono
      have hmono1 : a1 ≤ m1 := hmono.1
      have hmono2 : m2 = a2 := hmono.2
      have HPK : Hid (kidU (sD l (ksAt ks k)) u1 (gAt (allF got p) k) = (a1, a2, a3) ∧ kidB (sD l (ksAt ks k)) u1 (gAt (allF got p) k) = ab) := Lib.hid (by rw [HKK.out.2.1, HGX.out, ← hse]; exact ⟨hA, hAB⟩)
      have HL7 : Hid (∀ W, Below w7.heap.size w7 W → (W.cell? ⟨gu1, k * 3, none⟩ = some (.int .i64 a1) ∧ W.cell? ⟨gu1, k * 3 + 1, none⟩ = some (.int .i64 a2) ∧ W.cell? ⟨gu1, k * 3 + 2, none⟩ = some (.int .i64 a3)) ∧ W.cell? ⟨gb1, k, none⟩ = some (.bool ab)) := Lib.hid (fun W hb => by
        have h := H7.out.1.below hb H7.out.1.lt
        have h2 := H7.out.2.1.below hb H7.out.2.1.lt
        refine ⟨⟨?_, ?_, ?_⟩, ?_⟩
        · rw [h.get (k * 3) (triC_g0 _ hl2), HPK.out.1]
        · rw [h.get (k * 3 + 1) (triC_g1 _ hl2), HPK.out.1]
        · rw [h.get (k * 3 + 2) (triC_g2 _ hl2), HPK.out.1]
        · rw [h2.get k (by rw [List.getElem?_toArray]; exact booC_at _ hl2), HPK.out.2])
      have HONE : Hid (∀ W, Below w6.heap.size w6 W → ∀ (gx : Addr) (cx : Nat) (z : Cn) (z1 z2 z3 : Int) (zb : Bool), Reads W W.heap.size 4 (some gx) 1 (cnsCells [z]) → ((0 ≤ z.least ∧ z.least ≤ 1099511627776) ∧ 0 ≤ z.greatest ∧ z.greatest ≤ 1099511627776) → kidU s u1 z = (z1, z2, z3) → kidB s u1 z = zb → ∀ ck,
          Calls Try.prog 31 #[.agg #[.slice (some ad) n c, .slice A2 ma c2, .int .i64 view], .int .i64 (i : Int), .agg #[.int .i64 u1, .int .i64 u2, .int .i64 u3], .slice (some (ar.add k)) 1 ck, .slice (some gx) 1 cx] W fun e w' => (∃ gu gb, e = .returned (.tuple #[.slice (some ⟨gu, 0, none⟩) 1 1, .slice (some ⟨gb, 0, none⟩) 1 1]) ∧ Blk w' gu 39 #[.int .i64 z1, .int .i64 z2, .int .i64 z3] ∧ Blk w' gb 4 #[.bool zb]) ∧ Below W.heap.size W w') := Lib.hid (fun W hb gx cx z z1 z2 z3 zb hz hzb e1 e2 ck => by
        have h := H6.out.2.trans (hb.mono H6.out.2.size)
        obtain ⟨ar2, ear, hr1⟩ := HKK.out.2.2 W h
        injection ear with ear
        subst ear
        refine (HKI.out W h (some (ar.add k)) (some gx) ck cx [kk] [z] hr1 (fun q hq => by rw [List.mem_singleton] at hq; subst hq; exact HKK.out.1) (by simp) hz (fun q hq => by rw [List.mem_singleton] at hq; subst hq; exact hzb)).mono fun e w' hh => ?_
        obtain ⟨⟨gu, gb, he, h1, h2, _, _⟩, h3⟩ := hh
        refine ⟨⟨gu, gb, he, ?_, ?_⟩, h3⟩
        · have e3 : (triC (fun k => kidU (sD l (ksAt [kk] k)) u1 (gAt [z] k)) [kk].length).toArray = #[.int .i64 z1, .int .i64 z2, .int .i64 z3] := by
            have e0 : kidU (sD l (ksAt [kk] 0)) u1 (gAt [z] 0) = (z1, z2, z3) := by rw [← e1, hse]; rfl
            show (triC _ 1).toArray = _
            rw [show (1 : Nat) = 0 + 1 from rfl, triC_succ]
            simp [triC, e0]
          rw [← e3]; exact h1
        · have e3 : (booC (fun k => kidB (sD l (ksAt [kk] k)) u1 (gAt [z] k)) [kk].length).toArray = #[.bool zb] := by
            have e0 : kidB (sD l (ksAt [kk] 0)) u1 (gAt [z] 0) = zb := by rw [← e2, hse]; rfl
            show (booC _ 1).toArray = _
            simp [booC, e0]
          rw [← e3]; exact h2)
      have HK2 : Hid (∀ W, Below w6.heap.size w6 W → ∀ ck cx, Calls Try.prog 31 #[.agg #[.slice (some ad) n c, .slice A2 ma c2, .int .i64 view], .int .i64 (i : Int), .agg #[.int .i64 u1, .int .i64 u2, .int .i64 u3], .slice (some (ar.add k)) 1 ck, .slice (some ⟨gm, k * 4, none⟩) 1 cx] W fun e w' => (∃ gu gb, e = .returned (.tuple #[.slice (some ⟨gu, 0, none⟩) 1 1, .slice (some ⟨gb, 0, none⟩) 1 1]) ∧ Blk w' gu 39 #[.int .i64 a1, .int .i64 a2, .int .i64 a3] ∧ Blk w' gb 4 #[.bool ab]) ∧ Below W.heap.size W w') := Lib.hid (fun W hb ck cx => HONE.out W hb _ cx x a1 a2 a3 ab (HXC.out W hb).1 hxb hA hAB ck)
      have HMB : Hid ((0 ≤ (cnMore x by_).least ∧ (cnMore x by_).least ≤ 1099511627776) ∧ 0 ≤ (cnMore x by_).greatest ∧ (cnMore x by_).greatest ≤ 1099511627776) := Lib.hid (by
        show ((0 ≤ min (x.least + by_) 1099511627776 ∧ min (x.least + by_) 1099511627776 ≤ 1099511627776) ∧ 0 ≤ min (x.greatest + by_) 1099511627776 ∧ min (x.greatest + by_) 1099511627776 ≤ 1099511627776)
        omega)
      have HK3 : Hid (∀ W, Below w6.heap.size w6 W → ∀ g3, Blk W g3 53 (cnsCells [cnMore x by_]).toArray → ∀ ck cx, Calls Try.prog 31 #[.agg #[.slice (some ad) n c, .slice A2 ma c2, .int .i64 view], .int .i64 (i : Int), .agg #[.int .i64 u1, .int .i64 u2, .int .i64 u3], .slice (some (ar.add k)) 1 ck, .slice (some ⟨g3, 0, none⟩) 1 cx] W fun e w' => (∃ gu gb, e = .returned (.tuple #[.slice (some ⟨gu, 0, none⟩) 1 1, .slice (some ⟨gb, 0, none⟩) 1 1]) ∧ Blk w' gu 39 #[.int .i64 m1, .int .i64 m2, .int .i64 m3]) ∧ Below W.heap.size W w') := Lib.hid (fun W hb g3 h3 ck cx => (HONE.out W hb _ cx (cnMore x by_) m1 m2 m3 _ (Reads.of_blkC h3 rfl) HMB.out hM rfl ck).mono fun e w' hh => by
        obtain ⟨⟨gu, gb, h1, h2, _⟩, h4⟩ := hh
        exact ⟨⟨gu, gb, h1, h2⟩, h4⟩)
      have hkc : k + 1 ≤ cr := by omega
      clear hse hA hAB hM hmono hkk hxe eX HONE HPK HMB
      have HFY : Hid (∀ W, Below w7.heap.size w7 W → (W.cell? ⟨gT, 0, none⟩ = some (.slice (some ad) n c) ∧ W.cell? ⟨gT, 1, none⟩ = some (.slice A2 ma c2) ∧ W.cell? ⟨gT, 2, none⟩ = some (.int .i64 view)) ∧ (W.cell? ⟨gU, 0, none⟩ = some (.int .i64 u1) ∧ W.cell? ⟨gU, 1, none⟩ = some (.int .i64 u2) ∧ W.cell? ⟨gU, 2, none⟩ = some (.int .i64 u3)) ∧ W.cell? ⟨ga, i, none⟩ = some (.slice (some ar) p cr)) := Lib.hid (fun W hb => HFX.out W (H7.out.2.2.trans (hb.mono H7.out.2.2.size)))
      have HZ6 : Hid (∀ W, Below w7.heap.size w7 W → Below w6.heap.size w6 W) := Lib.hid (fun W hb => H7.out.2.2.trans (hb.mono H7.out.2.2.size))
      have hk1p : (k : Int) + 1 ≤ (cr : Int) := by omega
      have hk1q : (k : Int) + 1 ≤ (p : Int) := by omega
      have hkk1 : (k : Int) ≤ (k : Int) + 1 := by omega
      have hcne : ¬ cr = k := by omega
      have hpne : ¬ p = k := by omega
      have f1 := (HFY.out wr HJ2.out).2.2
      go_upto_region 16 with (fail)
      clear f1
      have E0 : Below w7.heap.size w7 wr.drew := HJ2.out.drew
      refine wp_region_held_drew (S := fun W => Below w7.heap.size w7 W) (by kernel_rfl) E0 (fun hS => ?_)
      refine wpAnyH_take (i := 0) (v := ?_) rfl (by kernel_rfl) (by kernel_rfl) (by kernel_rfl) (fun _ _ _ h => h) (Or.inl ⟨by rfl, ?_⟩) hS ?_
      rotate_left
      · intro W' hS'
        obtain ⟨⟨t0, t1, t2⟩, ⟨v0, v1, v2⟩, f1⟩ := HFY.out W' hS'; go_simp
        rfl
      try simp only [Act.put, List.setIfInBounds_toArray, List.set_cons_zero, List.set_cons_succ, List.getElem_toArray, List.getElem_cons_zero, List.getElem_cons_succ]
      refine wpAnyH_take (i := 1) (v := ?_) rfl (by kernel_rfl) (by kernel_rfl) (by kernel_rfl) (fun _ _ _ h => h) (Or.inl ⟨by rfl, ?_⟩) hS ?_
      rotate_left
      · intro W' hS'
        obtain ⟨⟨t0, t1, t2⟩, ⟨v0, v1, v2⟩, f1⟩ := HFY.out W' hS'; go_simp
        rfl
      try simp only [Act.put, List.setIfInBounds_toArray, List.set_cons_zero, List.set_cons_succ, List.getElem_toArray, List.getElem_cons_zero, List.getElem_cons_succ]
      refine wpAnyH_take (i := 2) (v := ?_) rfl (by kernel_rfl) (by kernel_rfl) (by kernel_rfl) (fun _ _ _ h => h) (Or.inl ⟨by rfl, ?_⟩) hS ?_
      rotate_left
      · intro W' hS'
        obtain ⟨⟨t0, t1, t2⟩, ⟨v0, v1, v2⟩, f1⟩ := HFY.out W' hS'; go_simp
        rfl
      try simp only [Act.put, List.setIfInBounds_toArray, List.set_cons_zero, List.set_cons_succ, List.getElem_toArray, List.getElem_cons_zero, List.getElem_cons_succ]
      refine wpAnyH_take (i := 3) (v := ?_) rfl (by kernel_rfl) (by kernel_rfl) (by kernel_rfl) (fun _ _ _ h => h) (Or.inl ⟨by rfl, ?_⟩) hS ?_
      rotate_left
      · intro W' hS'
        obtain ⟨⟨t0, t1, t2⟩, ⟨v0, v1, v2⟩, f1⟩ := HFY.out W' hS'; go_simp
        rfl
      try simp only [Act.put, List.setIfInBounds_toArray, List.set_cons_zero, List.set_cons_succ, List.getElem_toArray, List.getElem_cons_zero, List.getElem_cons_succ]
      refine wpAnyH_take (i := 4) (v := ?_) rfl (by kernel_rfl) (by kernel_rfl) (by kernel_rfl) (fun _ _ _ h => h) (Or.inl ⟨by rfl, ?_⟩) hS ?_
      rotate_left
      · intro W' hS'
        obtain ⟨⟨t0, t1, t2⟩, ⟨v0, v1, v2⟩, f1⟩ := HFY.out W' hS'; go_simp
        rfl
      try simp only [Act.put, List.setIfInBounds_toArray, List.set_cons_zero, List.set_cons_succ, List.getElem_toArray, List.getElem_cons_zero, List.getElem_cons_succ]
      refine wpAnyH_take (i := 5) (v := ?_) rfl (by kernel_rfl) (by kernel_rfl) (by kernel_rfl) (fun _ _ _ h => h) (Or.inl ⟨by rfl, ?_⟩) hS ?_
      rotate_left
      · intro W' hS'
        obtain ⟨⟨t0, t1, t2⟩, ⟨v0, v1, v2⟩, f1⟩ := HFY.out W' hS'; go_simp
        rfl
      try simp only [Act.put, List.setIfInBounds_toArray, List.set_cons_zero, List.set_cons_succ, List.getElem_toArray, List.getElem_cons_zero, List.getElem_cons_succ]
      refine wpAnyH_take (i := 6) (v := ?_) rfl (by kernel_rfl) (by kernel_rfl) (by kernel_rfl) (fun _ _ _ h => h) (Or.inl ⟨by rfl, ?_⟩) hS ?_
      rotate_left
      · intro W' hS'
        obtain ⟨⟨t0, t1, t2⟩, ⟨v0, v1, v2⟩, f1⟩ := HFY.out W' hS'; go_simp
        rfl
      try simp only [Act.put, List.setIfInBounds_toArray, List.set_cons_zero, List.set_cons_succ, List.getElem_toArray, List.getElem_cons_zero, List.getElem_cons_succ]
      refine wpAnyH_take (i := 7) (v := ?_) rfl (by kernel_rfl) (by kernel_rfl) (by kernel_rfl) (fun _ _ _ h => h) (Or.inl ⟨by rfl, ?_⟩) hS ?_
      rotate_left
      · intro W' hS'
        obtain ⟨⟨t0, t1, t2⟩, ⟨v0, v1, v2⟩, f1⟩ := HFY.out W' hS'; go_simp
        rfl
      try simp only [Act.put, List.setIfInBounds_toArray, List.set_cons_zero, List.set_cons_succ, List.getElem_toArray, List.getElem_cons_zero, List.getElem_cons_succ]
      refine wpAnyH_take (i := 8) (v := ?_) rfl (by kernel_rfl) (by kernel_rfl) (by kernel_rfl) (fun _ _ _ h => h) (Or.inl ⟨by rfl, ?_⟩) hS ?_
      rotate_left
      · intro W' hS'
        obtain ⟨⟨t0, t1, t2⟩, ⟨v0, v1, v2⟩, f1⟩ := HFY.out W' hS'; go_simp
        rfl
      try simp only [Act.put, List.setIfInBounds_toArray, List.set_cons_zero, List.set_cons_succ, List.getElem_toArray, List.getElem_cons_zero, List.getElem_cons_succ]
      refine wpAnyH_take (i := 9) (v := ?_) rfl (by kernel_rfl) (by kernel_rfl) (by kernel_rfl) (fun _ _ _ h => h) (Or.inl ⟨by rfl, ?_⟩) hS ?_
      rotate_left
      · intro W' hS'
        obtain ⟨⟨t0, t1, t2⟩, ⟨v0, v1, v2⟩, f1⟩ := HFY.out W' hS'; go_simp
        rfl
      try simp only [Act.put, List.setIfInBounds_toArray, List.set_cons_zero, List.set_cons_succ, List.getElem_toArray, List.getElem_cons_zero, List.getElem_cons_succ]
      refine wpAnyH_take (i := 10) (v := ?_) rfl (by kernel_rfl) (by kernel_rfl) (by kernel_rfl) (fun _ _ _ h => h) (Or.inl ⟨by rfl, ?_⟩) hS ?_
      rotate_left
      · intro W' hS'
        obtain ⟨⟨t0, t1, t2⟩, ⟨v0, v1, v2⟩, f1⟩ := HFY.out W' hS'; go_simp
        rfl
      try simp only [Act.put, List.setIfInBounds_toArray, List.set_cons_zero, List.set_cons_succ, List.getElem_toArray, List.getElem_cons_zero, List.getElem_cons_succ]
      refine wpAnyH_take (i := 11) (v := ?_) rfl (by kernel_rfl) (by kernel_rfl) (by kernel_rfl) (fun _ _ _ h => h) (Or.inl ⟨by rfl, ?_⟩) hS ?_
      rotate_left
      · intro W' hS'
        obtain ⟨⟨t0, t1, t2⟩, ⟨v0, v1, v2⟩, f1⟩ := HFY.out W' hS'; go_simp
        rfl
      try simp only [Act.put, List.setIfInBounds_toArray, List.set_cons_zero, List.set_cons_succ, List.getElem_toArray, List.getElem_cons_zero, List.getElem_cons_succ]
      refine wpAnyH_take (i := 12) (v := ?_) rfl (by kernel_rfl) (by kernel_rfl) (by kernel_rfl) (fun _ _ _ h => h) (Or.inl ⟨by rfl, ?_⟩) hS ?_
      rotate_left
      · intro W' hS'
        obtain ⟨⟨t0, t1, t2⟩, ⟨v0, v1, v2⟩, f1⟩ := HFY.out W' hS'; go_simp
        rfl
      try simp only [Act.put, List.setIfInBounds_toArray, List.set_cons_zero, List.set_cons_succ, List.getElem_toArray, List.getElem_cons_zero, List.getElem_cons_succ]
      refine wpAnyH_take (i := 13) (v := ?_) rfl (by kernel_rfl) (by kernel_rfl) (by kernel_rfl) (fun _ _ _ h => h) (Or.inl ⟨by rfl, ?_⟩) hS ?_
      rotate_left
      · intro W' hS'
        obtain ⟨⟨t0, t1, t2⟩, ⟨v0, v1, v2⟩, f1⟩ := HFY.out W' hS'; go_simp
        rfl
      try simp only [Act.put, List.setIfInBounds_toArray, List.set_cons_zero, List.set_cons_succ, List.getElem_toArray, List.getElem_cons_zero, List.getElem_cons_succ]
      refine wpAnyH_take (i := 14) (v := ?_) rfl (by kernel_rfl) (by kernel_rfl) (by kernel_rfl) (fun _ _ _ h => h) (Or.inl ⟨by rfl, ?_⟩) hS ?_
      rotate_left
      · intro W' hS'
        obtain ⟨⟨t0, t1, t2⟩, ⟨v0, v1, v2⟩, f1⟩ := HFY.out W' hS'; go_simp
        rfl
      try simp only [Act.put, List.setIfInBounds_toArray, List.set_cons_zero, List.set_cons_succ, List.getElem_toArray, List.getElem_cons_zero, List.getElem_cons_succ]
      refine wpAnyH_take (i := 15) (v := ?_) rfl (by kernel_rfl) (by kernel_rfl) (by kernel_rfl) (fun _ _ _ h => h) (Or.inl ⟨by rfl, ?_⟩) hS ?_
      rotate_left
      · intro W' hS'
        obtain ⟨⟨t0, t1, t2⟩, ⟨v0, v1, v2⟩, f1⟩ := HFY.out W' hS'; go_simp
        rfl
      try simp only [Act.put, List.setIfInBounds_toArray, List.set_cons_zero, List.set_cons_succ, List.getElem_toArray, List.getElem_cons_zero, List.getElem_cons_succ]
      refine wpAnyH_ready (rs := [16]) (by kernel_rfl) (by simp) (AllReadyH.cons rfl (fun K hK => ?_) AllReadyH.nil)
      go_simp
      refine (HK2.out _ (HZ6.out _ hS) _ _).mono ?_
      rintro e w8 ⟨⟨gu2, gb2, rfl, hu8, hb8⟩, hbb⟩
      have hS8 : Below w7.heap.size w7 w8 := hS.trans (hbb.mono hS.size)
      clear hbb
      refine hK.out _ _ hS8 (fun hS => ?_)
      try simp only [Act.put, List.setIfInBounds_toArray, List.set_cons_zero, List.set_cons_succ, List.getElem_toArray, List.getElem_cons_zero, List.getElem_cons_succ]
      clear hK
      refine wpAnyH_take (i := 17) (v := ?_) rfl (by kernel_rfl) (by kernel_rfl) (by kernel_rfl) (fun _ _ _ h => h) (Or.inl ⟨by rfl, ?_⟩) hS ?_
      rotate_left
      · intro W' hS'
        go_simp
        rfl
      try simp only [Act.put, List.setIfInBounds_toArray, List.set_cons_zero, List.set_cons_succ, List.getElem_toArray, List.getElem_cons_zero, List.getElem_cons_succ]
      refine wpAnyH_take (i := 18) (v := ?_) rfl (by kernel_rfl) (by kernel_rfl) (by kernel_rfl) (fun _ _ _ h => h) (Or.inl ⟨by rfl, ?_⟩) hS ?_
      rotate_left
      · intro W' hS'
        go_simp
        rfl
      try simp only [Act.put, List.setIfInBounds_toArray, List.set_cons_zero, List.set_cons_succ, List.getElem_toArray, List.getElem_cons_zero, List.getElem_cons_succ]
      refine wpAnyH_take (i := 19) (v := ?_) rfl (by kernel_rfl) (by kernel_rfl) (by kernel_rfl) (fun _ _ _ h => h) (Or.inl ⟨by rfl, ?_⟩) hS ?_
      rotate_left
      · intro W' hS'
        go_simp
        rfl
      try simp only [Act.put, List.setIfInBounds_toArray, List.set_cons_zero, List.set_cons_succ, List.getElem_toArray, List.getElem_cons_zero, List.getElem_cons_succ]
      refine wpAnyH_take (i := 20) (v := ?_) rfl (by kernel_rfl) (by kernel_rfl) (by kernel_rfl) (fun _ _ _ h => h) (Or.inl ⟨by rfl, ?_⟩) hS ?_
      rotate_left
      · intro W' hS'
        go_simp
        rfl
      try simp only [Act.put, List.setIfInBounds_toArray, List.set_cons_zero, List.set_cons_succ, List.getElem_toArray, List.getElem_cons_zero, List.getElem_cons_succ]
      refine wpAnyH_take (i := 21) (v := ?_) rfl (by kernel_rfl) (by kernel_rfl) (by kernel_rfl) (fun _ _ _ h => h) (Or.inl ⟨by rfl, ?_⟩) hS ?_
      rotate_left
      · intro W' hS'
        go_simp
        rfl
      try simp only [Act.put, List.setIfInBounds_toArray, List.set_cons_zero, List.set_cons_succ, List.getElem_toArray, List.getElem_cons_zero, List.getElem_cons_succ]
      refine wpAnyH_done (by kernel_rfl) ?_ _
      have H8 := Lib.hid (And.intro hu8 (And.intro hb8 hS8))
      clear hS E0 hu8 hb8 hS8 HK2
      have g0 := H8.out.1.get 0 rfl
      have g1 := H8.out.1.get 1 rfl
      have g2 := H8.out.1.get 2 rfl
      have g3 := H8.out.2.1.get 0 rfl
      obtain ⟨⟨y0, y1, y2⟩, y3⟩ := HL7.out w8 H8.out.2.2
      have r1 : (a1 == a1) = true := by simp
      have r2 : (a2 == a2) = true := by simp
      have r3 : (a3 == a3) = true := by simp
      have r4 : (ab == ab) = true := by simp
      have r5 : (ab != ab) = false := by simp
      go_upto_region 17 with (fail)
      go_quiet (fail)
      clear y0 y1 y2 y3 g0 g1 g2 g3
      obtain ⟨wd, hwd⟩ : ∃ wd, wd = w8.drewN nq := ⟨_, rfl⟩
      rw [← hwd]
      have H9 : Hid (Blk wd gu2 39 #[.int .i64 a1, .int .i64 a2, .int .i64 a3] ∧ Below w7.heap.size w7 wd) := Lib.hid (by rw [hwd]; exact ⟨H8.out.1, below_dr H8.out.2.2 _⟩)
      clear hwd
      obtain ⟨-, x0, x1, x2, x3⟩ := HXC.out wd (HZ6.out wd H9.out.2)
      go_upto_region 20 with (fail)
      clear x0 x1 x2 x3
      obtain ⟨gx, hgx⟩ : ∃ gx, gx = wd.heap.size := ⟨_, rfl⟩
      have H10 : Hid (Blk (wd.alloc (.cells #[.int .i64 x.least, .int .i64 x.greatest, .int .i64 x.ol, .int .i64 x.og] 53)) gx 53 #[.int .i64 x.least, .int .i64 x.greatest, .int .i64 x.ol, .int .i64 x.og] ∧ Below w7.heap.size w7 (wd.alloc (.cells #[.int .i64 x.least, .int .i64 x.greatest, .int .i64 x.ol, .int .i64 x.og] 53)) ∧ Blk (wd.alloc (.cells #[.int .i64 x.least, .int .i64 x.greatest, .int .i64 x.ol, .int .i64 x.og] 53)) gu2 39 #[.int .i64 a1, .int .i64 a2, .int .i64 a3] ∧ w7.heap.size ≤ gx ∧ gu2 ≠ gx) := Lib.hid
        ⟨Blk.at_ _ _ _ hgx, H9.out.2.alloc H9.out.2.size _, H9.out.1.alloc _, by have := H9.out.2.size; omega, by have := H9.out.1.lt; omega⟩
      obtain ⟨w10, hw10⟩ : ∃ w10, w10 = wd.alloc (.cells #[.int .i64 x.least, .int .i64 x.greatest, .int .i64 x.ol, .int .i64 x.og] 53) := ⟨_, rfl⟩
      rw [← hw10] at H10 ⊢
      rw [← hgx]
      clear hw10 hgx
      obtain ⟨xl, hxl⟩ : ∃ xl, xl = x.least := ⟨_, rfl⟩
      obtain ⟨xg, hxg⟩ : ∃ xg, xg = x.greatest := ⟨_, rfl⟩
      obtain ⟨nl, hnl⟩ : ∃ nl, nl = min (xl + (by_ : Int)) 1099511627776 := ⟨_, rfl⟩
      obtain ⟨ng, hng⟩ : ∃ ng, ng = min (xg + (by_ : Int)) 1099511627776 := ⟨_, rfl⟩
      have HMV : Hid (cnMore x by_ = ⟨nl, ng, x.ol, x.og⟩) := Lib.hid (by rw [hnl, hng, hxl, hxg]; rfl)
      have HNL := Lib.hid (And.intro hnl hng)
      rw [← hxl, ← hxg] at hxb H10
      have wl : IntKind.i64.wrap (xl + (by_ : Int)) = xl + by_ := IntWalk.i64_in _ ⟨by omega, by omega⟩
      have wg : IntKind.i64.wrap (xg + (by_ : Int)) = xg + by_ := IntWalk.i64_in _ ⟨by omega, by omega⟩
      have wb : IntKind.i64.wrap (by_ : Int) = by_ := IntWalk.i64_in _ ⟨by omega, by omega⟩
      clear hxl hxg hnl hng
      go_cut [158] (fun sx wx => Hid (Blk wx gx 53 #[.int .i64 nl, .int .i64 xg, .int .i64 x.ol, .int .i64 x.og] ∧ Below w7.heap.size w7 wx ∧ Blk wx gu2 39 #[.int .i64 a1, .int .i64 a2, .int .i64 a3]))
      case first => as_aux_lemma =>
        have x0 := H10.out.1.get 0 rfl
        have x0f := H10.out.1.frozen 0
        go_wp2_with fail
        all_goals go_meet
        all_goals refine Lib.hid ⟨?_, H10.out.2.1.setCell (p := ⟨gx, 0, none⟩) H10.out.2.2.2.1 _, H10.out.2.2.1.far H10.out.2.2.2.2 _⟩
        all_goals first
          | (rw [show nl = xl + (by_ : Int) by have := HNL.out.1; omega]; exact H10.out.1.set_ 0 _)
          | (rw [show nl = 1099511627776 by have := HNL.out.1; omega]; exact H10.out.1.set_ 0 _)
      case rest => as_aux_lemma =>
      obtain ⟨w11, rfl⟩ : ∃ w11, w11 = wc := ⟨_, rfl⟩
      have H11 := hcut
      go_upto_region 21 with (fail)
      go_cut [165] (fun sx wx => Hid (Blk wx gx 53 #[.int .i64 nl, .int .i64 ng, .int .i64 x.ol, .int .i64 x.og] ∧ Below w7.heap.size w7 wx ∧ Blk wx gu2 39 #[.int .i64 a1, .int .i64 a2, .int .i64 a3]))
      case first => as_aux_lemma =>
        have x1 := H11.out.1.get 1 rfl
        have x1f := H11.out.1.frozen 1
        go_wp2_with fail
        all_goals go_meet
        all_goals refine Lib.hid ⟨?_, H11.out.2.1.setCell (p := ⟨gx, 1, none⟩) H10.out.2.2.2.1 _, H11.out.2.2.far H10.out.2.2.2.2 _⟩
        all_goals first
          | (rw [show ng = xg + (by_ : Int) by have := HNL.out.2; omega]; exact H11.out.1.set_ 1 _)
          | (rw [show ng = 1099511627776 by have := HNL.out.2; omega]; exact H11.out.1.set_ 1 _)
      case rest => as_aux_lemma =>
      obtain ⟨w12, rfl⟩ : ∃ w12, w12 = wc := ⟨_, rfl⟩
      have H12 := hcut
      clear H11 HNL wl wg wb
      have HMQ : Hid (∀ W, Below w7.heap.size w7 W → W.heap.size ≤ W.heap.size) := Lib.hid (fun _ _ => Nat.le_refl _)
      go_upto_region 22 with (fail)
      have E0 : Below w12.heap.size w12 w12.drew := (Below.refl _ _).drew
      refine wp_region_held_drew (S := fun W => Below w12.heap.size w12 W) (by kernel_rfl) E0 (fun hS => ?_)
      refine wpAnyH_take (i := 0) (v := ?_) rfl (by kernel_rfl) (by kernel_rfl) (by kernel_rfl) (fun _ _ _ h => h) (Or.inl ⟨by rfl, ?_⟩) hS ?_
      rotate_left
      · intro W' hS'
        have hS7 := H12.out.2.1.trans (hS'.mono H12.out.2.1.size); obtain ⟨⟨t0, t1, t2⟩, ⟨v0, v1, v2⟩, f1⟩ := HFY.out W' hS7; have hx := H12.out.1.below hS' H12.out.1.lt; have x0 := hx.get 0 rfl; have x1 := hx.get 1 rfl; have x2 := hx.get 2 rfl; have x3 := hx.get 3 rfl; clear hx hS7; go_simp
        rfl
      try simp only [Act.put, List.setIfInBounds_toArray, List.set_cons_zero, List.set_cons_succ, List.getElem_toArray, List.getElem_cons_zero, List.getElem_cons_succ]
      refine wpAnyH_take (i := 1) (v := ?_) rfl (by kernel_rfl) (by kernel_rfl) (by kernel_rfl) (fun _ _ _ h => h) (Or.inl ⟨by rfl, ?_⟩) hS ?_
      rotate_left
      · intro W' hS'
        have hS7 := H12.out.2.1.trans (hS'.mono H12.out.2.1.size); obtain ⟨⟨t0, t1, t2⟩, ⟨v0, v1, v2⟩, f1⟩ := HFY.out W' hS7; have hx := H12.out.1.below hS' H12.out.1.lt; have x0 := hx.get 0 rfl; have x1 := hx.get 1 rfl; have x2 := hx.get 2 rfl; have x3 := hx.get 3 rfl; clear hx hS7; go_simp
        rfl
      try simp only [Act.put, List.setIfInBounds_toArray, List.set_cons_zero, List.set_cons_succ, List.getElem_toArray, List.getElem_cons_zero, List.getElem_cons_succ]
      refine wpAnyH_take (i := 2) (v := ?_) rfl (by kernel_rfl) (by kernel_rfl) (by kernel_rfl) (fun _ _ _ h => h) (Or.inl ⟨by rfl, ?_⟩) hS ?_
      rotate_left
      · intro W' hS'
        have hS7 := H12.out.2.1.trans (hS'.mono H12.out.2.1.size); obtain ⟨⟨t0, t1, t2⟩, ⟨v0, v1, v2⟩, f1⟩ := HFY.out W' hS7; have hx := H12.out.1.below hS' H12.out.1.lt; have x0 := hx.get 0 rfl; have x1 := hx.get 1 rfl; have x2 := hx.get 2 rfl; have x3 := hx.get 3 rfl; clear hx hS7; go_simp
        rfl
      try simp only [Act.put, List.setIfInBounds_toArray, List.set_cons_zero, List.set_cons_succ, List.getElem_toArray, List.getElem_cons_zero, List.getElem_cons_succ]
      refine wpAnyH_take (i := 3) (v := ?_) rfl (by kernel_rfl) (by kernel_rfl) (by kernel_rfl) (fun _ _ _ h => h) (Or.inl ⟨by rfl, ?_⟩) hS ?_
      rotate_left
      · intro W' hS'
        have hS7 := H12.out.2.1.trans (hS'.mono H12.out.2.1.size); obtain ⟨⟨t0, t1, t2⟩, ⟨v0, v1, v2⟩, f1⟩ := HFY.out W' hS7; have hx := H12.out.1.below hS' H12.out.1.lt; have x0 := hx.get 0 rfl; have x1 := hx.get 1 rfl; have x2 := hx.get 2 rfl; have x3 := hx.get 3 rfl; clear hx hS7; go_simp
        rfl
      try simp only [Act.put, List.setIfInBounds_toArray, List.set_cons_zero, List.set_cons_succ, List.getElem_toArray, List.getElem_cons_zero, List.getElem_cons_succ]
      refine wpAnyH_take (i := 4) (v := ?_) rfl (by kernel_rfl) (by kernel_rfl) (by kernel_rfl) (fun _ _ _ h => h) (Or.inl ⟨by rfl, ?_⟩) hS ?_
      rotate_left
      · intro W' hS'
        have hS7 := H12.out.2.1.trans (hS'.mono H12.out.2.1.size); obtain ⟨⟨t0, t1, t2⟩, ⟨v0, v1, v2⟩, f1⟩ := HFY.out W' hS7; have hx := H12.out.1.below hS' H12.out.1.lt; have x0 := hx.get 0 rfl; have x1 := hx.get 1 rfl; have x2 := hx.get 2 rfl; have x3 := hx.get 3 rfl; clear hx hS7; go_simp
        rfl
      try simp only [Act.put, List.setIfInBounds_toArray, List.set_cons_zero, List.set_cons_succ, List.getElem_toArray, List.getElem_cons_zero, List.getElem_cons_succ]
      refine wpAnyH_take (i := 5) (v := ?_) rfl (by kernel_rfl) (by kernel_rfl) (by kernel_rfl) (fun _ _ _ h => h) (Or.inl ⟨by rfl, ?_⟩) hS ?_
      rotate_left
      · intro W' hS'
        have hS7 := H12.out.2.1.trans (hS'.mono H12.out.2.1.size); obtain ⟨⟨t0, t1, t2⟩, ⟨v0, v1, v2⟩, f1⟩ := HFY.out W' hS7; have hx := H12.out.1.below hS' H12.out.1.lt; have x0 := hx.get 0 rfl; have x1 := hx.get 1 rfl; have x2 := hx.get 2 rfl; have x3 := hx.get 3 rfl; clear hx hS7; go_simp
        rfl
      try simp only [Act.put, List.setIfInBounds_toArray, List.set_cons_zero, List.set_cons_succ, List.getElem_toArray, List.getElem_cons_zero, List.getElem_cons_succ]
      refine wpAnyH_take (i := 6) (v := ?_) rfl (by kernel_rfl) (by kernel_rfl) (by kernel_rfl) (fun _ _ _ h => h) (Or.inl ⟨by rfl, ?_⟩) hS ?_
      rotate_left
      · intro W' hS'
        have hS7 := H12.out.2.1.trans (hS'.mono H12.out.2.1.size); obtain ⟨⟨t0, t1, t2⟩, ⟨v0, v1, v2⟩, f1⟩ := HFY.out W' hS7; have hx := H12.out.1.below hS' H12.out.1.lt; have x0 := hx.get 0 rfl; have x1 := hx.get 1 rfl; have x2 := hx.get 2 rfl; have x3 := hx.get 3 rfl; clear hx hS7; go_simp
        rfl
      try simp only [Act.put, List.setIfInBounds_toArray, List.set_cons_zero, List.set_cons_succ, List.getElem_toArray, List.getElem_cons_zero, List.getElem_cons_succ]
      refine wpAnyH_take (i := 7) (v := ?_) rfl (by kernel_rfl) (by kernel_rfl) (by kernel_rfl) (fun _ _ _ h => h) (Or.inl ⟨by rfl, ?_⟩) hS ?_
      rotate_left
      · intro W' hS'
        have hS7 := H12.out.2.1.trans (hS'.mono H12.out.2.1.size); obtain ⟨⟨t0, t1, t2⟩, ⟨v0, v1, v2⟩, f1⟩ := HFY.out W' hS7; have hx := H12.out.1.below hS' H12.out.1.lt; have x0 := hx.get 0 rfl; have x1 := hx.get 1 rfl; have x2 := hx.get 2 rfl; have x3 := hx.get 3 rfl; clear hx hS7; go_simp
        rfl
      try simp only [Act.put, List.setIfInBounds_toArray, List.set_cons_zero, List.set_cons_succ, List.getElem_toArray, List.getElem_cons_zero, List.getElem_cons_succ]
      refine wpAnyH_take (i := 8) (v := ?_) rfl (by kernel_rfl) (by kernel_rfl) (by kernel_rfl) (fun _ _ _ h => h) (Or.inl ⟨by rfl, ?_⟩) hS ?_
      rotate_left
      · intro W' hS'
        have hS7 := H12.out.2.1.trans (hS'.mono H12.out.2.1.size); obtain ⟨⟨t0, t1, t2⟩, ⟨v0, v1, v2⟩, f1⟩ := HFY.out W' hS7; have hx := H12.out.1.below hS' H12.out.1.lt; have x0 := hx.get 0 rfl; have x1 := hx.get 1 rfl; have x2 := hx.get 2 rfl; have x3 := hx.get 3 rfl; clear hx hS7; go_simp
        rfl
      try simp only [Act.put, List.setIfInBounds_toArray, List.set_cons_zero, List.set_cons_succ, List.getElem_toArray, List.getElem_cons_zero, List.getElem_cons_succ]
      refine wpAnyH_take (i := 9) (v := ?_) rfl (by kernel_rfl) (by kernel_rfl) (by kernel_rfl) (fun _ _ _ h => h) (Or.inl ⟨by rfl, ?_⟩) hS ?_
      rotate_left
      · intro W' hS'
        have hS7 := H12.out.2.1.trans (hS'.mono H12.out.2.1.size); obtain ⟨⟨t0, t1, t2⟩, ⟨v0, v1, v2⟩, f1⟩ := HFY.out W' hS7; have hx := H12.out.1.below hS' H12.out.1.lt; have x0 := hx.get 0 rfl; have x1 := hx.get 1 rfl; have x2 := hx.get 2 rfl; have x3 := hx.get 3 rfl; clear hx hS7; go_simp
        rfl
      try simp only [Act.put, List.setIfInBounds_toArray, List.set_cons_zero, List.set_cons_succ, List.getElem_toArray, List.getElem_cons_zero, List.getElem_cons_succ]
      refine wpAnyH_take (i := 10) (v := ?_) rfl (by kernel_rfl) (by kernel_rfl) (by kernel_rfl) (fun _ _ _ h => h) (Or.inl ⟨by rfl, ?_⟩) hS ?_
      rotate_left
      · intro W' hS'
        have hS7 := H12.out.2.1.trans (hS'.mono H12.out.2.1.size); obtain ⟨⟨t0, t1, t2⟩, ⟨v0, v1, v2⟩, f1⟩ := HFY.out W' hS7; have hx := H12.out.1.below hS' H12.out.1.lt; have x0 := hx.get 0 rfl; have x1 := hx.get 1 rfl; have x2 := hx.get 2 rfl; have x3 := hx.get 3 rfl; clear hx hS7; go_simp
        rfl
      try simp only [Act.put, List.setIfInBounds_toArray, List.set_cons_zero, List.set_cons_succ, List.getElem_toArray, List.getElem_cons_zero, List.getElem_cons_succ]
      refine wpAnyH_take (i := 11) (v := ?_) rfl (by kernel_rfl) (by kernel_rfl) (by kernel_rfl) (fun _ _ _ h => h) (Or.inl ⟨by rfl, ?_⟩) hS ?_
      rotate_left
      · intro W' hS'
        have hS7 := H12.out.2.1.trans (hS'.mono H12.out.2.1.size); obtain ⟨⟨t0, t1, t2⟩, ⟨v0, v1, v2⟩, f1⟩ := HFY.out W' hS7; have hx := H12.out.1.below hS' H12.out.1.lt; have x0 := hx.get 0 rfl; have x1 := hx.get 1 rfl; have x2 := hx.get 2 rfl; have x3 := hx.get 3 rfl; clear hx hS7; go_simp
        rfl
      try simp only [Act.put, List.setIfInBounds_toArray, List.set_cons_zero, List.set_cons_succ, List.getElem_toArray, List.getElem_cons_zero, List.getElem_cons_succ]
      refine wpAnyH_ready (rs := [12]) (by kernel_rfl) (by simp) (AllReadyH.cons rfl (fun K hK => ?_) AllReadyH.nil)
      go_simp
      refine hK.out _ _ (hS.alloc hS.size _) (fun hS => ?_)
      try simp only [Act.put, List.setIfInBounds_toArray, List.set_cons_zero, List.set_cons_succ, List.getElem_toArray, List.getElem_cons_zero, List.getElem_cons_succ]
      clear hK
      refine wpAnyH_ready (rs := [13]) (by kernel_rfl) (by simp) (AllReadyH.cons rfl (fun K hK => ?_) AllReadyH.nil)
      go_simp
      refine (HK3.out _ (HZ6.out _ (H12.out.2.1.trans (hS.mono H12.out.2.1.size))) w12.heap.size (by rw [HMV.out]; exact Blk.at_ _ _ _ (by simp)) _ _).mono ?_
      rintro e w9 ⟨⟨gu3, gb3, rfl, hu9⟩, hbb⟩
      have hS9 : Below w12.heap.size w12 w9 := hS.trans (hbb.mono hS.size)
      clear hbb
      refine hK.out _ _ hS9 (fun hS => ?_)
      try simp only [Act.put, List.setIfInBounds_toArray, List.set_cons_zero, List.set_cons_succ, List.getElem_toArray, List.getElem_cons_zero, List.getElem_cons_succ]
      clear hK
      refine wpAnyH_take (i := 14) (v := ?_) rfl (by kernel_rfl) (by kernel_rfl) (by kernel_rfl) (fun _ _ _ h => h) (Or.inl ⟨by rfl, ?_⟩) hS ?_
      rotate_left
      · intro W' hS'
        go_simp
        rfl
      try simp only [Act.put, List.setIfInBounds_toArray, List.set_cons_zero, List.set_cons_succ, List.getElem_toArray, List.getElem_cons_zero, List.getElem_cons_succ]
      refine wpAnyH_take (i := 15) (v := ?_) rfl (by kernel_rfl) (by kernel_rfl) (by kernel_rfl) (fun _ _ _ h => h) (Or.inl ⟨by rfl, ?_⟩) hS ?_
      rotate_left
      · intro W' hS'
        go_simp
        rfl
      try simp only [Act.put, List.setIfInBounds_toArray, List.set_cons_zero, List.set_cons_succ, List.getElem_toArray, List.getElem_cons_zero, List.getElem_cons_succ]
      refine wpAnyH_take (i := 16) (v := ?_) rfl (by kernel_rfl) (by kernel_rfl) (by kernel_rfl) (fun _ _ _ h => h) (Or.inl ⟨by rfl, ?_⟩) hS ?_
      rotate_left
      · intro W' hS'
        go_simp
        rfl
      try simp only [Act.put, List.setIfInBounds_toArray, List.set_cons_zero, List.set_cons_succ, List.getElem_toArray, List.getElem_cons_zero, List.getElem_cons_succ]
      refine wpAnyH_take (i := 17) (v := ?_) rfl (by kernel_rfl) (by kernel_rfl) (by kernel_rfl) (fun _ _ _ h => h) (Or.inl ⟨by rfl, ?_⟩) hS ?_
      rotate_left
      · intro W' hS'
        go_simp
        rfl
      try simp only [Act.put, List.setIfInBounds_toArray, List.set_cons_zero, List.set_cons_succ, List.getElem_toArray, List.getElem_cons_zero, List.getElem_cons_succ]
      refine wpAnyH_take (i := 18) (v := ?_) rfl (by kernel_rfl) (by kernel_rfl) (by kernel_rfl) (fun _ _ _ h => h) (Or.inl ⟨by rfl, ?_⟩) hS ?_
      rotate_left
      · intro W' hS'
        go_simp
        rfl
      try simp only [Act.put, List.setIfInBounds_toArray, List.set_cons_zero, List.set_cons_succ, List.getElem_toArray, List.getElem_cons_zero, List.getElem_cons_succ]
      refine wpAnyH_done (by kernel_rfl) ?_ _
      have H13 := Lib.hid (And.intro hu9 hS9)
      clear hS E0 hu9 hS9 HK3
      have H14 : Hid (Blk w9 gu2 39 #[.int .i64 a1, .int .i64 a2, .int .i64 a3]) := Lib.hid (H12.out.2.2.below H13.out.2 H12.out.2.2.lt)
      have g0 := H13.out.1.get 0 rfl
      have g1 := H13.out.1.get 1 rfl
      have y0 := H14.out.get 0 rfl
      have y1 := H14.out.get 1 rfl
      have d1 : decide (m1 < a1) = false := decide_eq_false (by omega)
      have d2 : (m2 != a2) = false := by rw [hmono2]; simp
      have HBE := Lib.hid (show Below w7.heap.size w7 w9 from H12.out.2.1.trans (H13.out.2.mono H12.out.2.1.size))
      clear hmono1 hmono2
      go_upto_region 23 with (fail)
      go_quiet (fail)
      go_wp2_with fail
      go_roundw
      case rel => exact ⟨k + 1, by omega, by go_num, Lib.hid (below_dr HBE.out _)⟩
      case measure => simp [intOf] <;> omega
end Go.Proofs.Ytdnpobfnkdllmaa
