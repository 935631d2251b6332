/- The law MainsFits, walked. -/
import Derived.Test.YtdnpobfnkdllmaaMu
set_option linter.unusedSimpArgs false
set_option linter.unusedVariables false
namespace Go.Proofs.Ytdnpobfnkdllmaa
open Go.RowKit
attribute [local go_sem] block_of_add

def kidsF (ws : List Nat) (g sh : Int) : List Sty := ws.map fun (x : Nat) => itemS x g sh nil0
theorem kidsF_ord (ws : List Nat) (g sh : Int) (k : Nat) (h : k < (kidsF ws g sh).length) : ordF (kidsF ws g sh) k = 0 := by
  rw [ordF_at _ h]; simp [kidsF, itemS]
theorem sumN_range (ws : List Nat) : ((List.range ws.length).map fun k => ((ws[k]?.getD 0 : Nat) : Int)).sum = sumN ws := by
  unfold sumN
  congr 1
  apply List.ext_getElem
  · simp
  · intro i h1 h2
    simp at h1
    simp [h1]
theorem fits_used (ws : List Nat) (g sh : Int) (hw : ∀ x ∈ ws, x < 65536) (k : Nat) (hk : k < ws.length) : usedT (mainsM flexS (sumN ws) (kidsF ws g sh) [] k) = (((ws[k]?.getD 0 : Nat) : Int), 0, 0) := by
  have hl : (kidsF ws g sh).length = ws.length := by simp [kidsF]
  have hne : kidsF ws g sh ≠ [] := fun e => by rw [e] at hl; simp at hl; omega
  rw [mains_row flexS _ _ _ rfl (kidsF_ord ws g sh) hne, hl]
  have hM : ∀ k ∈ List.range ws.length, itM (kidsF ws g sh) (sumN ws) [] k = measF (itemS (ws[k]?.getD 0 : Nat) g sh nil0) (sumN ws) 0 := fun k hk => by
    rw [List.mem_range] at hk
    unfold itM
    rw [stK_at (by rw [hl]; exact hk)]
    simp [kidsF, hk, gAt]
  have hf := fit_fits (sumN ws) (fun k => (ws[k]?.getD 0 : Nat)) g sh nil0 (List.range ws.length) (itM (kidsF ws g sh) (sumN ws) []) (fun k _ => by omega) hM (sumN_range ws) k (List.mem_range.2 hk)
  rw [(used_item _ _ _ k _ g sh 0 (hM k (List.mem_range.2 hk))).1, hf]
  have hb := hw ws[k] (List.getElem_mem hk)
  have : (ws[k]?.getD 0) < 65536 := by rw [List.getElem?_eq_getElem hk]; exact hb
  rw [numF_in ⟨by omega, by omega⟩, cutF_in (by omega) (by omega)]
set_option maxRecDepth 100000 in
set_option maxHeartbeats 4000000 in
theorem mainsFits_any (ws : List Nat) (g sh : Nat) (A : Option Addr) (c : Nat) (w : World) (hw : ∀ x ∈ ws, x < 65536) (hg : g < 256) (hs : sh < 256) (hr : Reads w w.heap.size 1 A ws.length (u16c ws)) :
    Calls Try.prog 4 #[.slice A ws.length c, .int .u8 g, .int .u8 sh] w fun e w' => e = .returned (.bool true) ∧ Below w.heap.size w w' := by
  have HR := Lib.hid hr
  have HW := Lib.hid hw
  clear hr hw
  obtain ⟨n, hne⟩ : ∃ n, n = ws.length := ⟨_, rfl⟩
  rw [← hne] at HR ⊢
  have HN := Lib.hid hne
  clear hne
  by_cases hn : 60 < n
  · have h0 : decide ((60 : Int) < (n : Int)) = true := decide_eq_true (by omega)
    have h0' : decide (60 < n) = true := decide_eq_true hn
    have hn' : (60 : Int) < (n : Int) := by omega
    go_enter Try.func4, Try.ntmps4
    go_wp2_with (go_at_call 12; refine (works19_any _).mono ?_; rintro e w' ⟨rfl, hb9⟩; have HB9 := Lib.hid hb9; clear hb9)
    go_ret
    exact ⟨rfl, HB9.out⟩
  · have h0 : decide ((60 : Int) < (n : Int)) = false := decide_eq_false (by omega)
    have h0' : decide (60 < n) = false := decide_eq_false hn
    have hn' : (n : Int) ≤ 60 := by omega
    go_enter Try.func4, Try.ntmps4
    go_wp2_with fail
    have hgb : 0 ≤ (g : Int) % 60 ∧ (g : Int) % 60 ≤ 60 := by omega
    have hsb : 0 ≤ (sh : Int) % 60 ∧ (sh : Int) % 60 ≤ 60 := by omega
    go_loopw [7, 8, 9] (fun v sm kv wr => ∃ i : Nat, i ≤ n ∧ kv = .int .i64 i ∧ sm = .int .i64 (sumN (ws.take i)) ∧ Hid (wr.ownsRow w.heap.size 32 43 v i (stysCells (kidsF (ws.take i) ((g : Int) % 60) ((sh : Int) % 60))) ∧ Below w.heap.size w wr)) (fun _ _ kv _ => n - (intOf kv).toNat)
    case atStart => exact ⟨0, by omega, rfl, rfl, Lib.hid ⟨World.ownsRow_nil _ _ _ _, Below.refl _ _⟩⟩
    case round =>
      obtain ⟨i, hi, rfl, rfl, HH⟩ := hrel
      obtain ⟨Ao, co, hv⟩ := own_form HH.out.1
      subst hv
      by_cases hlt : i < n
      · have g0 : decide ((i : Int) < (n : Int)) = true := decide_eq_true (by omega)
        have g0' : decide (i < n) = true := decide_eq_true hlt
        have hki : (i : Int) < (n : Int) := by omega
        have hk0 : (0 : Int) ≤ (i : Int) := by omega
        have wk : IntKind.i64.wrap ((i : Int) + 1) = (i : Int) + 1 := IntWalk.i64_in _ ⟨by omega, by omega⟩
        have hil : i < ws.length := by rw [← HN.out]; exact hlt
        obtain ⟨ad, u, rfl, _, hx, hcu⟩ := (HR.out.below HH.out.2).at_ hlt
        obtain rfl := u16_at hil hx
        obtain ⟨x, hxe⟩ : ∃ x, x = ws[i] := ⟨_, rfl⟩
        have hxb : x < 65536 := by rw [hxe]; exact HW.out _ (List.getElem_mem hil)
        rw [← hxe] at hcu
        have HX : Hid (ws.take (i + 1) = ws.take i ++ [x]) := Lib.hid (by rw [hxe]; exact List.take_succ_eq_append_getElem hil)
        have hsm := sumN_bd (ws.take i) 65535 (fun y hy => by have := HW.out y (List.mem_of_mem_take hy); omega)
        have hlen : (ws.take i).length = i := by rw [List.length_take]; omega
        rw [hlen] at hsm
        obtain ⟨S, hS⟩ : ∃ S, S = sumN (ws.take i) := ⟨_, rfl⟩
        rw [← hS] at hsm ⊢
        have HS := Lib.hid hS
        clear hS hlen
        have w1 : IntKind.i64.wrap (x : Int) = x := IntWalk.i64_in _ ⟨by omega, by omega⟩
        have w2 : IntKind.i64.wrap (g : Int) = g := IntWalk.i64_in _ ⟨by omega, by omega⟩
        have w3 : IntKind.i64.wrap (sh : Int) = sh := IntWalk.i64_in _ ⟨by omega, by omega⟩
        have w4 : IntKind.i64.wrap (S + (x : Int)) = S + x := IntWalk.i64_in _ ⟨by omega, by omega⟩
        have HXC := Lib.hid (show (u16c ws)[i]? = some (.int .u16 (x : Int)) by rw [hxe]; simp [u16c, hil])
        clear hx hxe
        go_upto_region 8 with (fail)
        go_upto_region 9 with (first
          | (go_at_call 13; refine (item_any _ _ _ _).mono ?_; rintro e w7 ⟨rfl, hb7⟩; have H7 := Lib.hid (And.intro (own_below HH.out.1 hb7) (HH.out.2.trans (hb7.mono HH.out.2.size))); clear hb7 hcu)
          | refine wpList_rows rfl 25 1 #[(0, .tmp 35)] rfl (.slice (some ⟨w7.heap.size, 0, none⟩) 1 1) (w7.alloc (.cells (styCells (itemS x ((g : Int) % 60) ((sh : Int) % 60) nil0)).toArray 32)) (by kernel_rfl) ?_
          | (at_builtin; refine wpList_app (m := 1) rfl _ _ rfl el_sty H7.out.1 H7.out.2.size rfl (styCells (itemS x ((g : Int) % 60) ((sh : Int) % 60) nil0)) rfl rfl (sty_ones rfl) (by omega) (by omega) ?_; intro A8 c8 w8 hown8 hB8 hg8 _; have H8 := Lib.hid (And.intro hown8 (hB8 _ _ (Nat.le_refl _) H7.out.2)); clear hown8 hB8 hg8))
        have HS2 : Hid (S + x = sumN (ws.take (i + 1)) ∧ stysCells (kidsF (ws.take (i + 1)) ((g : Int) % 60) ((sh : Int) % 60)) = stysCells (kidsF (ws.take i) ((g : Int) % 60) ((sh : Int) % 60)) ++ styCells (itemS x ((g : Int) % 60) ((sh : Int) % 60) nil0)) := Lib.hid (by
          rw [HX.out]
          exact ⟨by rw [HS.out]; simp [sumN], by simp [kidsF, stysCells]⟩)
        have hcu := (HR.out.below H8.out.2).cel hlt HXC.out
        go_wp2_with fail
        go_roundw
        case rel => exact ⟨i + 1, by omega, by go_num, by rw [← HS2.out.1], Lib.hid ⟨by rw [HS2.out.2]; exact H8.out.1, H8.out.2⟩⟩
        case measure => simp [intOf] <;> omega
      · have g0 : decide ((i : Int) < (n : Int)) = false := decide_eq_false (by omega)
        have g0' : decide (i < n) = false := decide_eq_false hlt
        have hkn : i = n := by omega
        have htk : ws.take i = ws := by rw [hkn, HN.out, List.take_length]
        rw [htk] at HH ⊢
        rw [hkn] at HH ⊢
        clear hkn htk hlt g0'
        have g0' : decide (n < n) = false := decide_eq_false (by omega)
        have hsm := sumN_bd ws 65535 (fun y hy => by have := HW.out y hy; omega)
        rw [← HN.out] at hsm
        have HK := Lib.hid (show (kidsF ws ((g : Int) % 60) ((sh : Int) % 60)).length = n by simp [kidsF, HN.out])
        have HU := Lib.hid (fun k (hk : k < n) => fits_used ws ((g : Int) % 60) ((sh : Int) % 60) HW.out k (by rw [← HN.out]; exact hk))
        obtain ⟨S, hS⟩ : ∃ S, S = sumN ws := ⟨_, rfl⟩
        rw [← hS] at hsm HU ⊢
        clear hS
        obtain ⟨kids, hkids⟩ : ∃ kids, kids = kidsF ws ((g : Int) % 60) ((sh : Int) % 60) := ⟨_, rfl⟩
        have HX : Hid (∀ s ∈ kids, StX s ∧ s.uv = nil0) := Lib.hid (by
          rw [hkids]
          intro s hs
          obtain ⟨x, hx, rfl⟩ := List.mem_map.1 hs
          have := HW.out x hx
          exact ⟨itemX (by omega) hgb hsb, rfl⟩)
        rw [← hkids] at HH HK HU
        clear hkids
        have HM := Lib.hid (mains_any flexS S kids [] Ao none co 0 wr (by rw [HK.out]; omega) (by rw [HK.out]; exact Reads.of_own HH.out.1) (fun s hs => ⟨_, _, _, (HX.out s hs).2⟩) Reads.none_ ⟨by omega⟩ (fun s hs => (HX.out s hs).1) (fun s hs => by simp at hs))
        rw [HK.out] at HM
        go_wp2_with (first
          | refine wpList_build rfl 32 #[(0, .const (.int .u8 2))] rfl (.agg (styCells flexS).toArray) (by kernel_rfl) ?_
          | (go_at_call 14; refine HM.out.mono ?_; rintro e w9 ⟨⟨gu, gb, he, hu, _, _, _⟩, hb9⟩; rw [HK.out] at he hu; subst he; have H9 := Lib.hid (And.intro hu (HH.out.2.trans (hb9.mono HH.out.2.size))); clear hu hb9))
        obtain ⟨i0, hi0⟩ : ∃ i0 : Nat, i0 = 0 := ⟨_, rfl⟩
        go_loopw [12] (fun kv wr => ∃ j : Nat, j ≤ n ∧ kv = .int .i64 j ∧ Hid (Blk wr gu 39 (triC (fun k => usedT (mainsM flexS S kids [] k)) n).toArray ∧ Below w.heap.size w wr)) (fun kv _ => n - (intOf kv).toNat)
        case atStart => exact ⟨0, by omega, rfl, H9⟩
        case round =>
          obtain ⟨j, hj, rfl, HJ⟩ := hrel
          by_cases hlt : j < n
          · have q0 : decide ((j : Int) < (n : Int)) = true := decide_eq_true (by omega)
            have q0' : decide (j < n) = true := decide_eq_true hlt
            have hki : (j : Int) < (n : Int) := by omega
            have hk0 : (0 : Int) ≤ (j : Int) := by omega
            have wk : IntKind.i64.wrap ((j : Int) + 1) = (j : Int) + 1 := IntWalk.i64_in _ ⟨by omega, by omega⟩
            have hil : j < ws.length := by rw [← HN.out]; exact hlt
            obtain ⟨ad, u, rfl, _, hx, hcu⟩ := (HR.out.below HJ.out.2).at_ hlt
            obtain rfl := u16_at hil hx
            obtain ⟨x, hxe⟩ : ∃ x, x = ws[j] := ⟨_, rfl⟩
            have hxb : x < 65536 := by rw [hxe]; exact HW.out _ (List.getElem_mem hil)
            have w1 : IntKind.i64.wrap (x : Int) = x := IntWalk.i64_in _ ⟨by omega, by omega⟩
            have HXC := Lib.hid (show (u16c ws)[j]? = some (.int .u16 (x : Int)) by rw [hxe]; simp [u16c, hil])
            have HUK : Hid (usedT (mainsM flexS S kids [] j) = ((x : Int), 0, 0)) := Lib.hid (by rw [HU.out j hlt, List.getElem?_eq_getElem hil, ← hxe]; rfl)
            clear hcu hx hxe
            go_upto_region 16 with (fail)
            have E0 : Blk wr.drew gu 39 (triC (fun k => usedT (mainsM flexS S kids [] k)) n).toArray ∧ Below w.heap.size w wr.drew := ⟨HJ.out.1.drew, HJ.out.2.drew⟩
            refine wp_region_S (fun _ _ _ W => Blk W gu 39 (triC (fun k => usedT (mainsM flexS S kids [] k)) n).toArray ∧ Below w.heap.size w W) 1000 1000 100000 true true (by kernel_rfl) (by kernel_rfl) (by kernel_rfl) (E0) ?_
            refine wpAnyS_take (i := 0) (v := ?_) rfl (by kernel_rfl) (by kernel_rfl) (by kernel_rfl) (fun _ _ _ h => h) (by rfl) (gives_pure (by rfl) ?_) ?_
            rotate_left
            · intro b' d' u' W' hS'
              have c1 := hS'.1.get (j * 3) (triC_g0 _ hlt)
              have c2 := hS'.1.get (j * 3 + 1) (triC_g1 _ hlt)
              have c3 := hS'.1.get (j * 3 + 2) (triC_g2 _ hlt)
              rw [HUK.out] at c1 c2 c3
              have c4 := ((HR.out.below hS'.2).cel hlt HXC.out)
              go_simp
              rfl
            try simp only [Act.put, List.setIfInBounds_toArray, List.set_cons_zero, List.set_cons_succ, List.getElem_toArray, List.getElem_cons_zero, List.getElem_cons_succ]
            refine wpAnyS_take (i := 1) (v := ?_) rfl (by kernel_rfl) (by kernel_rfl) (by kernel_rfl) (fun _ _ _ h => h) (by rfl) (gives_pure (by rfl) ?_) ?_
            rotate_left
            · intro b' d' u' W' hS'
              have c1 := hS'.1.get (j * 3) (triC_g0 _ hlt)
              have c2 := hS'.1.get (j * 3 + 1) (triC_g1 _ hlt)
              have c3 := hS'.1.get (j * 3 + 2) (triC_g2 _ hlt)
              rw [HUK.out] at c1 c2 c3
              have c4 := ((HR.out.below hS'.2).cel hlt HXC.out)
              go_simp
              rfl
            try simp only [Act.put, List.setIfInBounds_toArray, List.set_cons_zero, List.set_cons_succ, List.getElem_toArray, List.getElem_cons_zero, List.getElem_cons_succ]
            refine wpAnyS_take (i := 2) (v := ?_) rfl (by kernel_rfl) (by kernel_rfl) (by kernel_rfl) (fun _ _ _ h => h) (by rfl) (gives_pure (by rfl) ?_) ?_
            rotate_left
            · intro b' d' u' W' hS'
              have c1 := hS'.1.get (j * 3) (triC_g0 _ hlt)
              have c2 := hS'.1.get (j * 3 + 1) (triC_g1 _ hlt)
              have c3 := hS'.1.get (j * 3 + 2) (triC_g2 _ hlt)
              rw [HUK.out] at c1 c2 c3
              have c4 := ((HR.out.below hS'.2).cel hlt HXC.out)
              go_simp
              rfl
            try simp only [Act.put, List.setIfInBounds_toArray, List.set_cons_zero, List.set_cons_succ, List.getElem_toArray, List.getElem_cons_zero, List.getElem_cons_succ]
            refine wpAnyS_take (i := 3) (v := ?_) rfl (by kernel_rfl) (by kernel_rfl) (by kernel_rfl) (fun _ _ _ h => h) (by rfl) (gives_pure (by rfl) ?_) ?_
            rotate_left
            · intro b' d' u' W' hS'
              have c1 := hS'.1.get (j * 3) (triC_g0 _ hlt)
              have c2 := hS'.1.get (j * 3 + 1) (triC_g1 _ hlt)
              have c3 := hS'.1.get (j * 3 + 2) (triC_g2 _ hlt)
              rw [HUK.out] at c1 c2 c3
              have c4 := ((HR.out.below hS'.2).cel hlt HXC.out)
              go_simp
              rfl
            try simp only [Act.put, List.setIfInBounds_toArray, List.set_cons_zero, List.set_cons_succ, List.getElem_toArray, List.getElem_cons_zero, List.getElem_cons_succ]
            refine wpAnyS_take (i := 4) (v := ?_) rfl (by kernel_rfl) (by kernel_rfl) (by kernel_rfl) (fun _ _ _ h => h) (by rfl) (gives_pure (by rfl) ?_) ?_
            rotate_left
            · intro b' d' u' W' hS'
              have c1 := hS'.1.get (j * 3) (triC_g0 _ hlt)
              have c2 := hS'.1.get (j * 3 + 1) (triC_g1 _ hlt)
              have c3 := hS'.1.get (j * 3 + 2) (triC_g2 _ hlt)
              rw [HUK.out] at c1 c2 c3
              have c4 := ((HR.out.below hS'.2).cel hlt HXC.out)
              go_simp
              rfl
            try simp only [Act.put, List.setIfInBounds_toArray, List.set_cons_zero, List.set_cons_succ, List.getElem_toArray, List.getElem_cons_zero, List.getElem_cons_succ]
            refine wpAnyS_take (i := 5) (v := ?_) rfl (by kernel_rfl) (by kernel_rfl) (by kernel_rfl) (fun _ _ _ h => h) (by rfl) (gives_pure (by rfl) ?_) ?_
            rotate_left
            · intro b' d' u' W' hS'
              have c1 := hS'.1.get (j * 3) (triC_g0 _ hlt)
              have c2 := hS'.1.get (j * 3 + 1) (triC_g1 _ hlt)
              have c3 := hS'.1.get (j * 3 + 2) (triC_g2 _ hlt)
              rw [HUK.out] at c1 c2 c3
              have c4 := ((HR.out.below hS'.2).cel hlt HXC.out)
              go_simp
              rfl
            try simp only [Act.put, List.setIfInBounds_toArray, List.set_cons_zero, List.set_cons_succ, List.getElem_toArray, List.getElem_cons_zero, List.getElem_cons_succ]
            refine wpAnyS_take (i := 6) (v := ?_) rfl (by kernel_rfl) (by kernel_rfl) (by kernel_rfl) (fun _ _ _ h => h) (by rfl) (gives_pure (by rfl) ?_) ?_
            rotate_left
            · intro b' d' u' W' hS'
              have c1 := hS'.1.get (j * 3) (triC_g0 _ hlt)
              have c2 := hS'.1.get (j * 3 + 1) (triC_g1 _ hlt)
              have c3 := hS'.1.get (j * 3 + 2) (triC_g2 _ hlt)
              rw [HUK.out] at c1 c2 c3
              have c4 := ((HR.out.below hS'.2).cel hlt HXC.out)
              go_simp
              rfl
            try simp only [Act.put, List.setIfInBounds_toArray, List.set_cons_zero, List.set_cons_succ, List.getElem_toArray, List.getElem_cons_zero, List.getElem_cons_succ]
            refine wpAnyS_take (i := 7) (v := ?_) rfl (by kernel_rfl) (by kernel_rfl) (by kernel_rfl) (fun _ _ _ h => h) (by rfl) (gives_pure (by rfl) ?_) ?_
            rotate_left
            · intro b' d' u' W' hS'
              have c1 := hS'.1.get (j * 3) (triC_g0 _ hlt)
              have c2 := hS'.1.get (j * 3 + 1) (triC_g1 _ hlt)
              have c3 := hS'.1.get (j * 3 + 2) (triC_g2 _ hlt)
              rw [HUK.out] at c1 c2 c3
              have c4 := ((HR.out.below hS'.2).cel hlt HXC.out)
              go_simp
              rfl
            try simp only [Act.put, List.setIfInBounds_toArray, List.set_cons_zero, List.set_cons_succ, List.getElem_toArray, List.getElem_cons_zero, List.getElem_cons_succ]
            refine wpAnyS_take (i := 8) (v := ?_) rfl (by kernel_rfl) (by kernel_rfl) (by kernel_rfl) (fun _ _ _ h => h) (by rfl) (gives_pure (by rfl) ?_) ?_
            rotate_left
            · intro b' d' u' W' hS'
              have c1 := hS'.1.get (j * 3) (triC_g0 _ hlt)
              have c2 := hS'.1.get (j * 3 + 1) (triC_g1 _ hlt)
              have c3 := hS'.1.get (j * 3 + 2) (triC_g2 _ hlt)
              rw [HUK.out] at c1 c2 c3
              have c4 := ((HR.out.below hS'.2).cel hlt HXC.out)
              go_simp
              rfl
            try simp only [Act.put, List.setIfInBounds_toArray, List.set_cons_zero, List.set_cons_succ, List.getElem_toArray, List.getElem_cons_zero, List.getElem_cons_succ]
            refine wpAnyS_take (i := 9) (v := ?_) rfl (by kernel_rfl) (by kernel_rfl) (by kernel_rfl) (fun _ _ _ h => h) (by rfl) (gives_pure (by rfl) ?_) ?_
            rotate_left
            · intro b' d' u' W' hS'
              have c1 := hS'.1.get (j * 3) (triC_g0 _ hlt)
              have c2 := hS'.1.get (j * 3 + 1) (triC_g1 _ hlt)
              have c3 := hS'.1.get (j * 3 + 2) (triC_g2 _ hlt)
              rw [HUK.out] at c1 c2 c3
              have c4 := ((HR.out.below hS'.2).cel hlt HXC.out)
              go_simp
              rfl
            try simp only [Act.put, List.setIfInBounds_toArray, List.set_cons_zero, List.set_cons_succ, List.getElem_toArray, List.getElem_cons_zero, List.getElem_cons_succ]
            refine wpAnyS_take (i := 10) (v := ?_) rfl (by kernel_rfl) (by kernel_rfl) (by kernel_rfl) (fun _ _ _ h => h) (by rfl) (gives_pure (by rfl) ?_) ?_
            rotate_left
            · intro b' d' u' W' hS'
              have c1 := hS'.1.get (j * 3) (triC_g0 _ hlt)
              have c2 := hS'.1.get (j * 3 + 1) (triC_g1 _ hlt)
              have c3 := hS'.1.get (j * 3 + 2) (triC_g2 _ hlt)
              rw [HUK.out] at c1 c2 c3
              have c4 := ((HR.out.below hS'.2).cel hlt HXC.out)
              go_simp
              rfl
            try simp only [Act.put, List.setIfInBounds_toArray, List.set_cons_zero, List.set_cons_succ, List.getElem_toArray, List.getElem_cons_zero, List.getElem_cons_succ]
            refine wpAnyS_done (b := true) (d := true) (by kernel_rfl) (by kernel_rfl) (by kernel_rfl) rfl (fun wS hS => ?_) _
            have HS := Lib.hid hS
            clear hS E0
            go_wp2_with fail
            go_roundw
            case rel => exact ⟨j + 1, by omega, by go_num, HS⟩
            case measure => simp [intOf] <;> omega
          · have q0 : decide ((j : Int) < (n : Int)) = false := decide_eq_false (by omega)
            have q0' : decide (j < n) = false := decide_eq_false hlt
            go_wp2_with (go_at_call 12; refine (works19_any _).mono ?_; rintro e w' ⟨rfl, hb9⟩; have HB9 := Lib.hid (HJ.out.2.trans (hb9.mono HJ.out.2.size)); clear hb9)
            go_ret
            exact ⟨rfl, HB9.out⟩
end Go.Proofs.Ytdnpobfnkdllmaa
