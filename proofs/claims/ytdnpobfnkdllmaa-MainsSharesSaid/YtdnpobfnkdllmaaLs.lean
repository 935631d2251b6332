/- The law MainsShares, walked. -/
import Derived.Test.YtdnpobfnkdllmaaMu
set_option linter.unusedSimpArgs false
set_option linter.unusedVariables false
namespace Go.Proofs.Ytdnpobfnkdllmaa
open Go.RowKit
attribute [local go_sem] block_of_add

def gwF (x : Nat) : Int := (x : Int) % 60 + 1
theorem gwF_bd (x : Nat) : 1 ≤ gwF x ∧ gwF x ≤ 60 := by unfold gwF; omega
def kidsG (gs : List Nat) (b : Int) : List Sty := gs.map fun x => itemS b (gwF x) 0 nil0
def sumG (gs : List Nat) : Int := (gs.map gwF).sum
theorem sumG_bd (l : List Nat) : (l.length : Int) ≤ sumG l ∧ sumG l ≤ 60 * l.length := by
  induction l with
  | nil => simp [sumG]
  | cons a t ih =>
    have := gwF_bd a
    have e : sumG (a :: t) = gwF a + sumG t := by simp [sumG]
    rw [e, List.length_cons]; omega
theorem kidsG_ord (gs : List Nat) (b : Int) (k : Nat) (h : k < (kidsG gs b).length) : ordF (kidsG gs b) k = 0 := by
  rw [ordF_at _ h]; simp [kidsG, itemS]
def gAtF (gs : List Nat) (k : Nat) : Int := gwF (gs[k]?.getD 0)
theorem sumG_range (gs : List Nat) : ((List.range gs.length).map (gAtF gs)).sum = sumG gs := by
  unfold sumG
  congr 1
  apply List.ext_getElem
  · simp
  · intro i h1 h2
    simp at h1
    simp [gAtF, h1]
/-- What the law asks of the widths: each is the base and a share, the shares' sum is the rest. -/
structure ShareAns (gs : List Nat) (c b : Int) (U : Nat → Int × Int × Int) : Prop where
  small : c - gs.length * b ≤ 0 → ∀ k, k < gs.length → (U k).1 = b
  big : 0 < c - gs.length * b → ∃ m : Nat → Int, (∀ k, k < gs.length → (U k).1 = b + m k ∧ (c - gs.length * b) * gAtF gs k / sumG gs ≤ m k ∧ m k ≤ (c - gs.length * b) * gAtF gs k / sumG gs + 1) ∧ ((List.range gs.length).map m).sum = c - gs.length * b
theorem shares_used (gs : List Nat) (c b : Int) (hc : 0 ≤ c ∧ c < 4294967296) (hb : 0 ≤ b ∧ b < 256) (hn : gs.length ≤ 60) (h0 : 0 < gs.length) : ShareAns gs c b (fun k => usedT (mainsM flexS c (kidsG gs b) [] k)) := by
  have hl : (kidsG gs b).length = gs.length := by simp [kidsG]
  have hne : kidsG gs b ≠ [] := fun e => by rw [e] at hl; simp at hl; omega
  have hM : ∀ k, k < gs.length → itM (kidsG gs b) c [] k = measF (itemS b (gAtF gs k) 0 nil0) c 0 := fun k hk => by
    unfold itM
    rw [stK_at (by rw [hl]; exact hk)]
    simp [kidsG, hk, gAt, gAtF]
  have hu : ∀ k, k < gs.length → ∀ z, (fitM c (itM (kidsG gs b) c []) (List.range gs.length) k).width = z → -1099511627776 ≤ z → z ≤ 1099511627776 → (usedT (mainsM flexS c (kidsG gs b) [] k)).1 = z := fun k hk z hz h1 h2 => by
    rw [mains_row flexS _ _ _ rfl (kidsG_ord gs b) hne, hl, (used_item _ _ _ k _ _ 0 0 (hM k hk)).1, hz]
    show cutF (numF z) = z
    rw [numF_in ⟨by omega, by omega⟩, cutF_in (by omega) (by omega)]
  have hM2 : ∀ k, k < gs.length → itM (kidsG gs b) c [] k = ⟨itemS b (gAtF gs k) 0 nil0, c, 0, 0, 0, b, b, 0, 0, 0, false⟩ := fun k hk => by rw [hM k hk, meas_item, show max b 0 = b by omega]
  constructor
  · intro hR k hk
    refine hu k hk b ?_ (by omega) (by omega)
    have hroom : roomM c (itM (kidsG gs b) c []) (List.range gs.length) = c := by
      unfold roomM sumM
      rw [sum_zero (List.range gs.length) (fun k => (itM (kidsG gs b) c [] k).sides) fun k hk => by rw [hM2 k (List.mem_range.1 hk)]]; omega
    have hgs : sumM (itM (kidsG gs b) c []) It.guess (List.range gs.length) = gs.length * b := by
      unfold sumM
      rw [sum_eqs (List.range gs.length) (fun k => (itM (kidsG gs b) c [] k).guess) (fun _ => b) fun k hk => by rw [hM2 k (List.mem_range.1 hk)]]
      have : ∀ l : List Nat, (l.map fun _ => b).sum = l.length * b := fun l => by
        induction l with
        | nil => simp
        | cons a t ih => rw [List.map_cons, List.sum_cons, ih, List.length_cons, Int.natCast_add, Int.add_mul]; simp; omega
      rw [this, List.length_range]
    have hgrow : growsM c (itM (kidsG gs b) c []) (List.range gs.length) = false := by unfold growsM; rw [hroom, hgs]; exact decide_eq_false (by omega)
    rw [fit_still c _ (List.range gs.length) (fun j hj => by
      rw [hgrow, hM2 j (List.mem_range.1 hj)]
      simp [stopI, facI, itemS]) k (List.mem_range.2 hk), hM2 k hk]
  · intro hR
    have hf := fit_shares gs.length c b (gAtF gs) nil0 h0 hb.1 (fun k hk => (gwF_bd _).1) (itM (kidsG gs b) c []) hM hR
    simp only [sumG_range] at hf
    obtain ⟨h1, h2, h3⟩ := hf
    have hG := sumG_bd gs
    have hnb : (0 : Int) ≤ gs.length * b := Int.mul_nonneg (by omega) hb.1
    obtain ⟨R, hRe⟩ : ∃ R, R = c - gs.length * b := ⟨_, rfl⟩
    rw [← hRe] at h1 h2 h3 hR ⊢
    have hRb : R ≤ 4294967296 := by omega
    refine ⟨fun k => R * gAtF gs k / sumG gs + if (k : Int) < R - ((List.range gs.length).map fun k => R * gAtF gs k / sumG gs).sum then 1 else 0, fun k hk => ⟨?_, ?_, ?_⟩, ?_⟩
    · have hg1 := gwF_bd (gs[k]?.getD 0)
      have hgG : gAtF gs k ≤ 60 ∧ 1 ≤ gAtF gs k := ⟨hg1.2, hg1.1⟩
      have hq : 0 ≤ R * gAtF gs k / sumG gs ∧ R * gAtF gs k / sumG gs ≤ R * 60 := by
        have p1 : 0 ≤ R * gAtF gs k := Int.mul_nonneg (by omega) (by omega)
        have p2 : R * gAtF gs k ≤ R * 60 := Int.mul_le_mul_of_nonneg_left (by omega) (by omega)
        have p3 : R * gAtF gs k / sumG gs ≤ R * gAtF gs k := Int.ediv_le_self _ p1
        exact ⟨Int.ediv_nonneg p1 (by omega), by omega⟩
      refine hu k hk _ (h1 k hk) ?_ ?_ <;> dsimp only <;> split <;> omega
    · dsimp only; split <;> omega
    · dsimp only; split <;> omega
    · rw [sum_add, sum_below _ _ h2]; omega
theorem own_more {W : World} {base i : Nat} {v : Value} {l l2 : List Sty} {x : Sty} (h : W.ownsRow base 32 43 v i (stysCells l ++ styCells x)) (e : l2 = l ++ [x]) : W.ownsRow base 32 43 v i (stysCells l2) := by
  rw [e]; unfold stysCells at h ⊢; rw [List.flatMap_append]; simpa using h
def sumM' (m : Nat → Int) (i : Nat) : Int := ((List.range i).map m).sum
theorem sumM'_succ (m : Nat → Int) (i : Nat) : sumM' m (i + 1) = sumM' m i + m i := by unfold sumM'; rw [List.range_succ, List.map_append, List.sum_append]; simp
theorem sumM'_bd (m : Nat → Int) (b : Int) : ∀ i : Nat, (∀ k, k < i → 0 ≤ m k ∧ m k ≤ b) → 0 ≤ sumM' m i ∧ sumM' m i ≤ b * i
  | 0, _ => by simp [sumM']
  | i + 1, h => by
    have h1 := sumM'_bd m b i (fun k hk => h k (by omega))
    have h2 := h i (by omega)
    have e : b * ((i + 1 : Nat) : Int) = b * i + b := by rw [Int.natCast_add, Int.mul_add]; simp
    rw [sumM'_succ, e]; omega
set_option maxRecDepth 100000 in
set_option maxHeartbeats 4000000 in
theorem mainsShares_any (c : Nat) (gs : List Nat) (b : Nat) (A : Option Addr) (cc : Nat) (w : World) (hc : c < 4294967296) (hg : ∀ x ∈ gs, x < 256) (hb : b < 256) (hr : Reads w w.heap.size 1 A gs.length (u8c gs)) :
    Calls Try.prog 3 #[.int .u32 c, .slice A gs.length cc, .int .u8 b] w fun e w' => e = .returned (.bool true) ∧ Below w.heap.size w w' := by
  have HR := Lib.hid hr
  have HG := Lib.hid hg
  clear hr hg
  obtain ⟨n, hne⟩ : ∃ n, n = gs.length := ⟨_, rfl⟩
  rw [← hne] at HR ⊢
  have HN := Lib.hid hne
  clear hne
  by_cases hn : 60 < n
  · have h0 : decide ((60 : Int) < (n : Int)) = true := decide_eq_true (by omega)
    have h0' : decide (60 < n) = true := decide_eq_true hn
    have hn' : (60 : Int) < (n : Int) := by omega
    go_enter Try.func3, Try.ntmps3
    go_wp2_with (go_at_call 12; refine (works19_any _).mono ?_; rintro e w' ⟨rfl, hb9⟩; have HB9 := Lib.hid hb9; clear hb9)
    go_ret
    exact ⟨rfl, HB9.out⟩
  by_cases hz : n = 0
  · subst hz
    go_enter Try.func3, Try.ntmps3
    go_wp2_with (go_at_call 12; refine (works19_any _).mono ?_; rintro e w' ⟨rfl, hb9⟩; have HB9 := Lib.hid hb9; clear hb9)
    go_ret
    exact ⟨rfl, HB9.out⟩
  have h0 : decide ((60 : Int) < (n : Int)) = false := decide_eq_false (by omega)
  have h0' : decide (60 < n) = false := decide_eq_false hn
  have hz1 : ((n : Int) == 0) = false := beq_eq_false_iff_ne.2 (by omega)
  have hz2 : (n == 0) = false := beq_eq_false_iff_ne.2 hz
  have hz3 : ¬ (n : Int) = 0 := by omega
  have hz4 : decide ((n : Int) = 0) = false := decide_eq_false hz3
  have hn' : (n : Int) ≤ 60 := by omega
  have wb : IntKind.i64.wrap (b : Int) = b := IntWalk.i64_in _ ⟨by omega, by omega⟩
  go_enter Try.func3, Try.ntmps3
  go_wp2_with fail
  go_loopw [7, 8, 9] (fun v sm kv wr => ∃ i : Nat, i ≤ n ∧ kv = .int .i64 i ∧ sm = .int .i64 (sumG (gs.take i)) ∧ Hid (wr.ownsRow w.heap.size 32 43 v i (stysCells (kidsG (gs.take i) b)) ∧ Below w.heap.size w wr)) (fun _ _ kv _ => n - (intOf kv).toNat)
  case atStart => exact ⟨0, by omega, rfl, rfl, Lib.hid ⟨World.ownsRow_nil _ _ _ _, Below.refl _ _⟩⟩
  case round =>
    obtain ⟨i, hi, rfl, rfl, HH⟩ := hrel
    obtain ⟨Ao, co, hv⟩ := own_form HH.out.1
    subst hv
    by_cases hlt : i < n
    · have g0 : decide ((i : Int) < (n : Int)) = true := decide_eq_true (by omega)
      have g0' : decide (i < n) = true := decide_eq_true hlt
      have hki : (i : Int) < (n : Int) := by omega
      have hk0 : (0 : Int) ≤ (i : Int) := by omega
      have wk : IntKind.i64.wrap ((i : Int) + 1) = (i : Int) + 1 := IntWalk.i64_in _ ⟨by omega, by omega⟩
      have hil : i < gs.length := by rw [← HN.out]; exact hlt
      obtain ⟨ad, u, rfl, _, hx, hcu⟩ := (HR.out.below HH.out.2).at_ hlt
      obtain rfl := u8_at hil hx
      obtain ⟨x, hxe⟩ : ∃ x, x = gs[i] := ⟨_, rfl⟩
      have hxb : x < 256 := by rw [hxe]; exact HG.out _ (List.getElem_mem hil)
      rw [← hxe] at hcu
      have HX : Hid (gs.take (i + 1) = gs.take i ++ [x]) := Lib.hid (by rw [hxe]; exact List.take_succ_eq_append_getElem hil)
      clear hx hxe
      have hsm := sumG_bd (gs.take i)
      have hlen : (gs.take i).length = i := by rw [List.length_take]; omega
      rw [hlen] at hsm
      obtain ⟨S, hS⟩ : ∃ S, S = sumG (gs.take i) := ⟨_, rfl⟩
      rw [← hS] at hsm ⊢
      have HS : Hid (S + ((x : Int) % 60 + 1) = sumG (gs.take (i + 1)) ∧ kidsG (gs.take (i + 1)) b = kidsG (gs.take i) b ++ [itemS b ((x : Int) % 60 + 1) 0 nil0]) := Lib.hid (by
        rw [HX.out, hS]
        exact ⟨by simp [sumG, gwF], by simp [kidsG, gwF]⟩)
      clear hS hlen
      have w1 : IntKind.i64.wrap (x : Int) = x := IntWalk.i64_in _ ⟨by omega, by omega⟩
      have w2 : IntKind.i64.wrap ((x : Int) % 60 + 1) = (x : Int) % 60 + 1 := IntWalk.i64_in _ ⟨by omega, by omega⟩
      have w4 : IntKind.i64.wrap (S + ((x : Int) % 60 + 1)) = S + ((x : Int) % 60 + 1) := IntWalk.i64_in _ ⟨by omega, by omega⟩
      go_upto_region 8 with (fail)
      go_upto_region 9 with (fail)
      clear hcu
      go_upto_region 10 with (first
        | (go_at_call 13; refine (item_any _ _ _ _).mono ?_; rintro e w7 ⟨rfl, hb7⟩; have H7 := Lib.hid (And.intro (own_below HH.out.1 hb7) (HH.out.2.trans (hb7.mono HH.out.2.size))); clear hb7)
        | refine wpList_rows rfl 25 1 #[(0, .tmp 45)] rfl (.slice (some ⟨w7.heap.size, 0, none⟩) 1 1) (w7.alloc (.cells (styCells (itemS b ((x : Int) % 60 + 1) 0 nil0)).toArray 32)) (by kernel_rfl) ?_
        | (at_builtin; refine wpList_app (m := 1) rfl _ _ rfl el_sty H7.out.1 H7.out.2.size rfl (styCells (itemS b ((x : Int) % 60 + 1) 0 nil0)) rfl rfl (sty_ones rfl) (by omega) (by omega) ?_; intro A8 c8 w8 hown8 hB8 hg8 _; have H8 := Lib.hid (And.intro (own_more hown8 HS.out.2) (hB8 _ _ (Nat.le_refl _) H7.out.2)); clear hown8 hB8 hg8))
      go_wp2_with fail
      go_roundw
      case rel => exact ⟨i + 1, by omega, by go_num, by rw [← HS.out.1], H8⟩
      case measure => simp [intOf] <;> omega
    · have g0 : decide ((i : Int) < (n : Int)) = false := decide_eq_false (by omega)
      have g0' : decide (i < n) = false := decide_eq_false hlt
      have hkn : i = n := by omega
      have htk : gs.take i = gs := by rw [hkn, HN.out, List.take_length]
      rw [htk] at HH ⊢
      rw [hkn] at HH ⊢
      clear hkn htk hlt g0'
      have g0' : decide (n < n) = false := decide_eq_false (by omega)
      have HK := Lib.hid (show (kidsG gs b).length = n by simp [kidsG, HN.out])
      have hsm := sumG_bd gs
      rw [← HN.out] at hsm
      have HU := Lib.hid (shares_used gs (c : Int) (b : Int) ⟨by omega, by omega⟩ ⟨by omega, by omega⟩ (by rw [← HN.out]; omega) (by rw [← HN.out]; omega))
      have HGR : Hid (∀ k, k < n → (kidsG gs b)[k]? = some (itemS b (gAtF gs k) 0 nil0)) := Lib.hid (fun k hk => by
        have : k < gs.length := by rw [← HN.out]; exact hk
        simp [kidsG, gAtF, this])
      have HX : Hid (∀ s ∈ kidsG gs b, StX s ∧ s.uv = nil0) := Lib.hid (by
        intro s hs
        obtain ⟨x, hx, rfl⟩ := List.mem_map.1 hs
        have := gwF_bd x
        exact ⟨itemX (by omega) (by omega) (by decide), rfl⟩)
      obtain ⟨G, hG⟩ : ∃ G, G = sumG gs := ⟨_, rfl⟩
      obtain ⟨kids, hkids⟩ : ∃ kids, kids = kidsG gs b := ⟨_, rfl⟩
      obtain ⟨ga, hga⟩ : ∃ ga, ga = gAtF gs := ⟨_, rfl⟩
      have HGB : Hid (∀ k, 1 ≤ ga k ∧ ga k ≤ 60) := Lib.hid (fun k => by rw [hga]; exact gwF_bd _)
      have HU2 : Hid ((((c : Int) - n * b ≤ 0) → ∀ k, k < n → (usedT (mainsM flexS c kids [] k)).1 = b) ∧ (0 < (c : Int) - n * b → ∃ m : Nat → Int, (∀ k, k < n → (usedT (mainsM flexS c kids [] k)).1 = b + m k ∧ ((c : Int) - n * b) * ga k / G ≤ m k ∧ m k ≤ ((c : Int) - n * b) * ga k / G + 1) ∧ ((List.range n).map m).sum = (c : Int) - n * b)) := Lib.hid (by
        rw [HN.out, hG, hkids, hga]; exact ⟨HU.out.small, HU.out.big⟩)
      rw [← hG] at hsm ⊢
      rw [← hkids] at HH HK HX HGR
      rw [← hga] at HGR
      clear HU hG hkids hga
      have HM := Lib.hid (mains_any flexS c kids [] Ao none co 0 wr (by rw [HK.out]; omega) (by rw [HK.out]; exact Reads.of_own HH.out.1) (fun s hs => ⟨_, _, _, (HX.out s hs).2⟩) Reads.none_ ⟨by omega⟩ (fun s hs => (HX.out s hs).1) (fun s hs => by simp at hs))
      rw [HK.out] at HM
      have hnb0 : (0 : Int) ≤ (n : Int) * b := Int.mul_nonneg (by omega) (by omega)
      have hnb1 : (n : Int) * b ≤ n * 255 := Int.mul_le_mul_of_nonneg_left (by omega) (by omega)
      obtain ⟨P, hP⟩ : ∃ P, P = (n : Int) * b := ⟨_, rfl⟩
      rw [← hP] at hnb0 hnb1 HU2
      have wc : IntKind.i64.wrap (c : Int) = c := IntWalk.i64_in _ ⟨by omega, by omega⟩
      have wp1 : IntKind.i64.wrap ((n : Int) * (b : Int)) = P := by rw [← hP]; exact IntWalk.i64_in _ ⟨by omega, by omega⟩
      have wp2 : IntKind.i64.wrap ((c : Int) - P) = (c : Int) - P := IntWalk.i64_in _ ⟨by omega, by omega⟩
      have hPn := hP.symm
      clear hP
      go_upto_region 12 with (fail)
      obtain ⟨R, hR⟩ : ∃ R, R = (c : Int) - P := ⟨_, rfl⟩
      have hRb : -15300 ≤ R ∧ R ≤ 4294967296 := by omega
      rw [← hR] at HU2 ⊢
      clear hR wp1 wp2 hPn
      go_upto_region 13 with (first
        | refine wpList_build rfl 32 #[(0, .const (.int .u8 2))] rfl (.agg (styCells flexS).toArray) (by kernel_rfl) ?_
        | (go_at_call 14; refine HM.out.mono ?_; rintro e w9 ⟨⟨gu, gb, he, hu, _, _, _⟩, hb9⟩; rw [HK.out] at he hu; subst he; have H9 := Lib.hid (And.intro hu (And.intro (HH.out.2.trans (hb9.mono HH.out.2.size)) (own_below HH.out.1 hb9))); clear hu hb9))
      by_cases hR0 : R ≤ 0
      · have e1 : decide (R ≤ 0) = true := decide_eq_true hR0
        have HU3 := Lib.hid (HU2.out.1 hR0)
        go_wp2_with fail
        go_loopw [14] (fun kv wr => ∃ j : Nat, j ≤ n ∧ kv = .int .i64 j ∧ Hid (Blk wr gu 39 (triC (fun k => usedT (mainsM flexS c kids [] k)) n).toArray ∧ Below w.heap.size w wr)) (fun kv _ => n - (intOf kv).toNat)
        case atStart => exact ⟨0, by omega, rfl, Lib.hid ⟨H9.out.1, H9.out.2.1⟩⟩
        case round =>
          obtain ⟨j, hj, rfl, HJ⟩ := hrel
          by_cases hlt : j < n
          · have q0 : decide ((j : Int) < (n : Int)) = true := decide_eq_true (by omega)
            have q0' : decide (j < n) = true := decide_eq_true hlt
            have hki : (j : Int) < (n : Int) := by omega
            have hk0 : (0 : Int) ≤ (j : Int) := by omega
            have wk : IntKind.i64.wrap ((j : Int) + 1) = (j : Int) + 1 := IntWalk.i64_in _ ⟨by omega, by omega⟩
            have c1 := HJ.out.1.get (j * 3) (triC_g0 _ hlt)
            rw [HU3.out j hlt] at c1
            go_wp2_with fail
            go_roundw
            case rel => exact ⟨j + 1, by omega, by go_num, HJ⟩
            case measure => simp [intOf] <;> omega
          · have q0 : decide ((j : Int) < (n : Int)) = false := decide_eq_false (by omega)
            have q0' : decide (j < n) = false := decide_eq_false hlt
            go_wp2_with (go_at_call 12; refine (works19_any _).mono ?_; rintro e w' ⟨rfl, hb9⟩; have HB9 := Lib.hid (HJ.out.2.trans (hb9.mono HJ.out.2.size)); clear hb9)
            go_ret
            exact ⟨rfl, HB9.out⟩
      · have e1 : decide (R ≤ 0) = false := decide_eq_false hR0
        obtain ⟨m, hm1, hm2⟩ := HU2.out.2 (by omega)
        have HM1 := Lib.hid hm1
        have HM2 : Hid (sumM' m n = R) := Lib.hid hm2
        have hGp : 0 < G := by omega
        have HMB : Hid (∀ k, k < n → 0 ≤ m k ∧ m k ≤ 257698037761) := Lib.hid (fun k hk => by
          have h1 := (hm1 k hk).2
          have h2 := HGB.out k
          have p1 : 0 ≤ R * ga k := Int.mul_nonneg (by omega) (by omega)
          have p2 : R * ga k ≤ R * 60 := Int.mul_le_mul_of_nonneg_left (by omega) (by omega)
          have p3 : R * ga k / G ≤ R * ga k := Int.ediv_le_self _ p1
          have p4 : 0 ≤ R * ga k / G := Int.ediv_nonneg p1 (by omega)
          omega)
        clear hm1 hm2
        go_wp2_with fail
        go_loopw [15, 16] (fun sm kv wr => ∃ j : Nat, j ≤ n ∧ kv = .int .i64 j ∧ sm = .int .i64 (sumM' m j) ∧ Hid (Blk wr gu 39 (triC (fun k => usedT (mainsM flexS c kids [] k)) n).toArray ∧ Below w.heap.size w wr ∧ wr.ownsRow w.heap.size 32 43 (.slice Ao n co) n (stysCells kids))) (fun _ kv _ => n - (intOf kv).toNat)
        case atStart => exact ⟨0, by omega, rfl, rfl, H9⟩
        case round =>
          obtain ⟨j, hj, rfl, rfl, HJ⟩ := hrel
          by_cases hlt : j < n
          · have q0 : decide ((j : Int) < (n : Int)) = true := decide_eq_true (by omega)
            have q0' : decide (j < n) = true := decide_eq_true hlt
            have hki : (j : Int) < (n : Int) := by omega
            have hk0 : (0 : Int) ≤ (j : Int) := by omega
            have wk : IntKind.i64.wrap ((j : Int) + 1) = (j : Int) + 1 := IntWalk.i64_in _ ⟨by omega, by omega⟩
            have hmj := HMB.out j hlt
            have hm := HM1.out j hlt
            have hgj := HGB.out j
            have p1 : 0 ≤ R * ga j := Int.mul_nonneg (by omega) (by omega)
            have p2 : R * ga j ≤ R * 60 := Int.mul_le_mul_of_nonneg_left (by omega) (by omega)
            have c1 := HJ.out.1.get (j * 3) (triC_g0 _ hlt)
            rw [hm.1] at c1
            obtain ⟨ad, rfl, s1⟩ := (Reads.of_own HJ.out.2.2).st HK.out.symm (show j < kids.length by rw [HK.out]; exact hlt)
            have hkj : kids[j]'(by rw [HK.out]; exact hlt) = itemS b (ga j) 0 nil0 := by
              have := HGR.out j hlt
              rw [List.getElem?_eq_getElem (by rw [HK.out]; exact hlt)] at this
              injection this
            rw [hkj] at s1
            have c2 := s1.cs 37 _ (show (styCells (itemS b (ga j) 0 nil0))[37 + 1]? = some (.int .i64 (ga j)) from rfl)
            rw [block_of_add] at c2
            clear s1
            obtain ⟨mj, hmje⟩ : ∃ mj, mj = m j := ⟨_, rfl⟩
            obtain ⟨gj, hgje⟩ : ∃ gj, gj = ga j := ⟨_, rfl⟩
            obtain ⟨S, hS⟩ : ∃ S, S = sumM' m j := ⟨_, rfl⟩
            have hSb := sumM'_bd m 257698037761 j (fun k hk => HMB.out k (by omega))
            rw [← hS] at hSb ⊢
            rw [← hmje] at c1 hmj hm
            rw [← hgje] at c2 hgj p1 p2 hm
            have HSS : Hid (S + mj = sumM' m (j + 1)) := Lib.hid (by rw [sumM'_succ, hS, hmje])
            clear hmje hgje hS hkj
            obtain ⟨wa, hwa⟩ : ∃ wa, wa = R * gj / G := ⟨_, rfl⟩
            rw [← hwa] at hm
            have hq : Int.tdiv (R * gj) G = wa := by rw [hwa]; exact Int.tdiv_eq_ediv_of_nonneg p1
            have hq2 : R * gj / G = wa := hwa.symm
            have hwb : 0 ≤ wa ∧ wa ≤ 257698037761 := by
              have p3 : R * gj / G ≤ R * gj := Int.ediv_le_self _ p1
              have p4 : 0 ≤ R * gj / G := Int.ediv_nonneg p1 (by omega)
              omega
            obtain ⟨X, hX⟩ : ∃ X, X = R * gj := ⟨_, rfl⟩
            rw [← hX] at p1 p2 hq hq2
            have wx : IntKind.i64.wrap (R * gj) = X := by rw [← hX]; exact IntWalk.i64_in _ ⟨by omega, by omega⟩
            have wd : IntKind.i64.wrap wa = wa := IntWalk.i64_in _ ⟨by omega, by omega⟩
            have wd1 : IntKind.i64.wrap (wa + 1) = wa + 1 := IntWalk.i64_in _ ⟨by omega, by omega⟩
            have wm : IntKind.i64.wrap ((b : Int) + mj - b) = mj := by rw [show (b : Int) + mj - b = mj by omega]; exact IntWalk.i64_in _ ⟨by omega, by omega⟩
            have ws : IntKind.i64.wrap (S + mj) = S + mj := IntWalk.i64_in _ ⟨by omega, by omega⟩
            have hG0 : ¬ G = 0 := by omega
            have hGb : (G == 0) = false := beq_eq_false_iff_ne.2 hG0
            have t1 : decide (mj < wa) = false := decide_eq_false (by omega)
            have t2 : decide (wa + 1 < mj) = false := decide_eq_false (by omega)
            clear hX hwa
            go_upto_region 26 with (fail)
            go_upto_region 27 with (fail)
            go_upto_region 28 with (fail)
            go_wp2_with fail
            go_roundw
            case rel => exact ⟨j + 1, by omega, by go_num, by rw [← HSS.out], HJ⟩
            case measure => simp [intOf] <;> omega
          · have q0 : decide ((j : Int) < (n : Int)) = false := decide_eq_false (by omega)
            have q0' : decide (j < n) = false := decide_eq_false hlt
            have hjn : j = n := by omega
            rw [hjn]
            rw [HM2.out]
            clear hjn hlt q0'
            have q0' : decide (n < n) = false := decide_eq_false (by omega)
            go_wp2_with (go_at_call 12; refine (works19_any _).mono ?_; rintro e w' ⟨rfl, hb9⟩; have HB9 := Lib.hid (HJ.out.2.1.trans (hb9.mono HJ.out.2.1.size)); clear hb9)
            go_ret
            exact ⟨rfl, HB9.out⟩
end Go.Proofs.Ytdnpobfnkdllmaa
