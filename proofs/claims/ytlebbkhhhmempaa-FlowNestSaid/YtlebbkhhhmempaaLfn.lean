/- The law FlowNest, walked. -/
import Derived.Test.YtlebbkhhhmempaaLnw
import Derived.Lib.MinMax
set_option linter.unusedSimpArgs false
set_option linter.unusedVariables false
namespace Go.Proofs.Ytlebbkhhhmempaa
open Go.RowKit
attribute [local go_sem] block_of_add
set_option maxRecDepth 100000 in
set_option maxHeartbeats 6000000 in
theorem flowNest_any (l : List (Int × Int)) (A : Option Addr) (c : Nat) (bd hi : Nat) (w : World) (hl : ∀ r ∈ l, I16p r) (hr : Reads w w.heap.size 2 A l.length (l.flatMap r2h)) (hbd : bd < 256) (hhi : hi < 65536) :
    Calls Try.prog 5 #[.slice A l.length c, .int .u8 bd, .int .u16 hi] w fun e w' => e = .returned (.bool true) ∧ Below w.heap.size w w' := by
  have HR := Lib.hid hr
  have HI := Lib.hid hl
  have HO := Lib.hid (Sty.one twS0 (A := none) (n := 0) (c := 0) rfl)
  clear hr hl
  go_enter Try.func5, Try.ntmps5
  by_cases hn : 40 < l.length
  · have d0 : decide ((40 : Int) < (l.length : Int)) = true := decide_eq_true (by omega)
    go_wp2_with (go_at_call 18; refine (works22_any _).mono ?_; rintro e w1 ⟨rfl, hb⟩)
    go_ret
    exact ⟨rfl, hb⟩
  have d00 : decide ((40 : Int) < (l.length : Int)) = false := decide_eq_false (by omega)
  by_cases hz : l.length = 0
  · have e0 : ((l.length : Int) == 0) = true := by rw [beq_iff_eq]; omega
    clear hz
    go_wp2_with (go_at_call 18; refine (works22_any _).mono ?_; rintro e w1 ⟨rfl, hb⟩)
    go_ret
    exact ⟨rfl, hb⟩
  have e00 : ((l.length : Int) == 0) = false := beq_eq_false_iff_ne.2 (by omega)
  have HN : Hid (1 ≤ l.length ∧ l.length ≤ 40) := Lib.hid ⟨by omega, by omega⟩
  clear hn hz
  go_upto_region 3 with (fail)
  clear d00 e00
  refine wp_region_lit ?_
  refine wpList_build rfl 69 #[(0, .const (.int .u8 1))] rfl (.agg (styCells (rootS 0 0)).toArray) (by kernel_rfl) ?_
  try simp only [Act.put, List.setIfInBounds_toArray, List.set_cons_zero, List.set_cons_succ, List.getElem_toArray, List.getElem_cons_zero, List.getElem_cons_succ]
  refine wpList_build rfl 71 #[(0, .const (.int .i64 (-1))), (1, .tmp 28)] rfl (.agg (ndCells ⟨-1, rootS 0 0⟩).toArray) (by kernel_rfl) ?_
  try simp only [Act.put, List.setIfInBounds_toArray, List.set_cons_zero, List.set_cons_succ, List.getElem_toArray, List.getElem_cons_zero, List.getElem_cons_succ]
  refine wpList_rows rfl 22 1 #[(0, .tmp 29)] rfl (.slice (some ⟨w.heap.size, 0, none⟩) 1 1) (w.alloc (.cells (ndsCells (twL 0 0 [])).toArray 71)) (by kernel_rfl) ?_
  try simp only [Act.put, List.setIfInBounds_toArray, List.set_cons_zero, List.set_cons_succ, List.getElem_toArray, List.getElem_cons_zero, List.getElem_cons_succ]
  go_upto_region 7 with (fail)
  have HNW := Lib.hid (NwI.start w)
  obtain ⟨H, HHI⟩ : ∃ H, Hid (H = (hi : Int) + 1) := ⟨_, Lib.hid rfl⟩
  go_loopw [8, 11] (fun q8 q11 wr => ∃ (j : Nat) (AN : Option Addr) (cN : Nat) (AU : Option Addr) (cU : Nat), j ≤ l.length ∧ q8 = .slice AU (j + 1) cU ∧ q11 = .int .i64 (j : Int) ∧ Hid (NwI w (w.heap.size + 1) (w.heap.size + 1 + 1 + 1) (w.heap.size + 1 + 1 + 1 + 1) (rsN l H j) j (jaF ⟨0, 0⟩ (rsN l H j)) (jcF ⟨0, 0⟩ (rsN l H j)) AN cN AU cU wr)) (fun _ q _ => l.length - (intOf q).toNat)
  case atStart => exact ⟨0, _, _, _, _, by omega, rfl, rfl, HNW⟩
  case round =>
    obtain ⟨j, AN, cN, AU, cU, hj, rfl, rfl, HJ⟩ := hrel
    obtain ⟨gT, HGT⟩ : ∃ gT, Hid (gT = w.heap.size + 1) := ⟨_, Lib.hid rfl⟩
    obtain ⟨gA, HGA⟩ : ∃ gA, Hid (gA = w.heap.size + 1 + 1 + 1) := ⟨_, Lib.hid rfl⟩
    obtain ⟨gB, HGB⟩ : ∃ gB, Hid (gB = w.heap.size + 1 + 1 + 1 + 1) := ⟨_, Lib.hid rfl⟩
    rw [← HGB.out, ← HGA.out, ← HGT.out] at HJ ⊢
    by_cases hlt : j < l.length
    · have d0 : decide ((j : Int) < (l.length : Int)) = true := decide_eq_true (by omega)
      have hwk : IntKind.i64.wrap ((j : Int) + 1) = (j : Int) + 1 := IntWalk.i64_in _ ⟨by omega, by have := HN.out; omega⟩
      have hwl : IntKind.i64.wrap ((l.length : Int) - 1) = (l.length : Int) - 1 := IntWalk.i64_in _ ⟨by omega, by have := HN.out; omega⟩
      obtain ⟨ad, hA, hb, HX⟩ := HR.out.row2 rfl hlt HJ.out.l
      have HXX := Lib.hid HX
      have HIN := Lib.hid (HI.out _ (List.getElem_mem hlt))
      have HTK := Lib.hid (rsN_succ l H j hlt)
      have HLJ := Lib.hid (rsN_len l H j hj)
      clear HX
      obtain ⟨r, hrr⟩ : ∃ r, r = l[j] := ⟨_, rfl⟩
      rw [← hrr] at HXX HIN HTK
      clear hrr
      obtain ⟨a, b⟩ := r
      have hin := HIN.out
      unfold I16p at hin
      dsimp only at hin
      obtain ⟨⟨i0, i1⟩, i2, i3⟩ := hin
      have hw2 : IntKind.i64.wrap a = a := IntWalk.i64_in _ ⟨by omega, by omega⟩
      have hw3 : IntKind.i64.wrap b = b := IntWalk.i64_in _ ⟨by omega, by omega⟩
      have hw4 : IntKind.i64.wrap (hi : Int) = (hi : Int) := IntWalk.i64_in _ ⟨by omega, by omega⟩
      have hw5 : IntKind.i64.wrap ((hi : Int) + 1) = (hi : Int) + 1 := IntWalk.i64_in _ ⟨by omega, by omega⟩
      have HAB : Hid ((-32768 ≤ a ∧ a ≤ 32767) ∧ (-32768 ≤ b ∧ b ≤ 32767)) := Lib.hid ⟨⟨i0, i1⟩, i2, i3⟩
      clear i0 i1 i2 i3
      subst hA
      have hj2 : (j : Int) < (l.length : Int) := by omega
      have HBA := Lib.hid hb
      clear hb
      obtain ⟨R, HRR⟩ : ∃ R, Hid (R = rsN l H j) := ⟨_, Lib.hid rfl⟩
      rw [← HRR.out] at HJ HTK HLJ
      have HRO : Hid (∀ r ∈ R, RwOk r) := Lib.hid (by rw [HRR.out]; exact rsN_ok l H j HI.out (by rw [HHI.out]; omega))
      go_upto_region 9 with (fail)
      go_upto_region 10 with (first
        | refine wpList_build rfl 69 #[(0, .const (.int .u8 1))] rfl (.agg (styCells twS0).toArray) (by kernel_rfl) ?_
        | refine wpList_store_new rfl 69 _ _ rfl _ rfl (styCells twS0).toArray rfl rfl 69 _ (by kernel_rfl) rfl HO.out ?_)
      obtain ⟨g, HG⟩ : ∃ g, Hid (g = wr.heap.size) := ⟨_, Lib.hid rfl⟩
      obtain ⟨w1, hw1⟩ : ∃ w1, w1 = wr.alloc (.cells (styCells twS0).toArray 69) := ⟨_, rfl⟩
      have HJ1 : Hid (NwI w gT gA gB R j (jaF ⟨0, 0⟩ R) (jcF ⟨0, 0⟩ R) AN cN AU cU w1) := Lib.hid (by rw [hw1]; exact HJ.out.bel ((Below.refl _ _).alloc (Nat.le_refl _) _))
      have HS1 : Hid (Blk w1 g 69 (styCells twS0).toArray) := Lib.hid (by rw [hw1, HG.out]; exact Blk.new _ _ _)
      have HGL : Hid (w.heap.size ≤ g) := Lib.hid (by rw [HG.out]; exact HJ.out.l.size)
      have HBW : Hid (∀ W', NwI w gT gA gB R j (jaF ⟨0, 0⟩ R) (jcF ⟨0, 0⟩ R) AN cN AU cU W' → Below w.heap.size w W') := Lib.hid (fun _ h => h.l)
      have HXW : Hid (∀ W', Below w.heap.size w W' → W'.cell? (ad.add (j * 2)) = some (.int .i16 a) ∧ W'.cell? ⟨ad.block, (ad.add (j * 2)).off + 1, none⟩ = some (.int .i16 b)) := Lib.hid (by
        obtain ⟨ad2, e2, hlt2, hh⟩ := HR.out.row2 rfl hlt (Below.refl w.heap.size w)
        injection e2 with e2
        subst e2
        intro W' hb
        have h1 := hh W' hb
        have h2 := HXX.out wr (Below.refl _ _)
        have h3 := hh wr HJ.out.l
        have e1 := h2.1.symm.trans h3.1
        have e4 := h2.2.symm.trans h3.2
        exact ⟨by rw [h1.1, ← e1], by rw [h1.2, ← e4]⟩)
      rw [← hw1, ← HG.out]
      clear hw1 HG
      obtain ⟨x0, x1⟩ := HXW.out w1 HJ1.out.l
      have hbw : ad.block < w1.heap.size := Nat.lt_of_lt_of_le HBA.out HJ1.out.l.size
      go_upto_region 11 with (go_at_call 23; refine (px22_any _ _).mono ?_; rintro e w2 ⟨rfl, hb2⟩; have HJ2 := Lib.hid (HJ1.out.bel hb2); have HS2 := Lib.hid (HS1.out.below hb2 HS1.out.lt); clear hb2; have fs := HS2.out.frozen; have s6 := HS2.out.get 16 (v := .int .u8 0) rfl; have s7 := HS2.out.get 17 (v := .int .i64 0) rfl)
      clear x0 x1 hbw
      obtain ⟨w3, hw3⟩ : ∃ w3, w3 = (w2.setCell ⟨g, 16, none⟩ (.int .u8 1)).setCell ⟨g, 17, none⟩ (.int .i64 (a)) := ⟨_, rfl⟩
      obtain ⟨s3, HEs3⟩ : ∃ z : Sty, Hid (z = { twS0 with m0 := ⟨1, a⟩ }) := ⟨_, Lib.hid rfl⟩
      have q := HJ2.out.len HS2.out (s' := s3) HGL.out 16 17 (.int .u8 1) (.int .i64 (a)) (by rw [HEs3.out]; rfl)
      rw [← hw3] at q ⊢
      have HJ3 := Lib.hid q.1
      have HS3 := Lib.hid q.2
      clear hw3 q fs s6 s7
      obtain ⟨x0, x1⟩ := HXW.out w3 HJ3.out.l
      have hbw : ad.block < w3.heap.size := Nat.lt_of_lt_of_le HBA.out HJ3.out.l.size
      go_upto_region 12 with (go_at_call 23; refine (px22_any _ _).mono ?_; rintro e w4 ⟨rfl, hb2⟩; have HJ4 := Lib.hid (HJ3.out.bel hb2); have HS4 := Lib.hid (HS3.out.below hb2 HS3.out.lt); clear hb2; have fs := HS4.out.frozen; have s6 := HS4.out.get 20 (v := .int .u8 0) (by rw [HEs3.out]; rfl); have s7 := HS4.out.get 21 (v := .int .i64 0) (by rw [HEs3.out]; rfl))
      clear x0 x1 hbw
      obtain ⟨w5, hw3⟩ : ∃ w5, w5 = (w4.setCell ⟨g, 20, none⟩ (.int .u8 1)).setCell ⟨g, 21, none⟩ (.int .i64 (b)) := ⟨_, rfl⟩
      obtain ⟨s5, HEs5⟩ : ∃ z : Sty, Hid (z = { s3 with m2 := ⟨1, b⟩ }) := ⟨_, Lib.hid rfl⟩
      have q := HJ4.out.len HS4.out (s' := s5) HGL.out 20 21 (.int .u8 1) (.int .i64 (b)) (by rw [HEs5.out]; rfl)
      rw [← hw3] at q ⊢
      have HJ5 := Lib.hid q.1
      have HS5 := Lib.hid q.2
      clear hw3 q fs s6 s7
      obtain ⟨sF, HSF⟩ : ∃ z : Sty, Hid (z = { s5 with h := if j + 1 = l.length then ⟨1, H⟩ else ⟨0, 0⟩ }) := ⟨_, Lib.hid rfl⟩
      by_cases hla : j + 1 = l.length
      all_goals
        first
        | (have e0 : ((j : Int) == (l.length : Int) - 1) = true := by rw [beq_iff_eq]; omega
           have HLA := Lib.hid hla
           clear hla
           go_upto_region 14 with (go_at_call 23; refine (px22_any _ _).mono ?_; rintro e w6 ⟨rfl, hb2⟩; have HJ6 := Lib.hid (HJ5.out.bel hb2); have HS6 := Lib.hid (HS5.out.below hb2 HS5.out.lt); clear hb2; have fs := HS6.out.frozen; have s6 := HS6.out.get 6 (v := .int .u8 0) (by rw [HEs5.out, HEs3.out]; rfl); have s7 := HS6.out.get 7 (v := .int .i64 0) (by rw [HEs5.out, HEs3.out]; rfl))
           obtain ⟨w7, hw3⟩ : ∃ w7, w7 = (w6.setCell ⟨g, 6, none⟩ (.int .u8 1)).setCell ⟨g, 7, none⟩ (.int .i64 ((hi : Int) + 1)) := ⟨_, rfl⟩
           have q := HJ6.out.len HS6.out (s' := sF) HGL.out 6 7 (.int .u8 1) (.int .i64 ((hi : Int) + 1)) (by rw [HSF.out, if_pos HLA.out, HHI.out]; rfl)
           rw [← hw3] at q ⊢
           have HJ7 := Lib.hid q.1
           have HS7 := Lib.hid q.2
           clear hw3 q fs s6 s7)
        | (have e0 : ((j : Int) == (l.length : Int) - 1) = false := beq_eq_false_iff_ne.2 (by omega)
           go_upto_region 14 with (fail)
           have HS5' : Hid (Blk w5 g 69 (styCells sF).toArray) := Lib.hid (by rw [HSF.out, if_neg hla, HEs5.out, HEs3.out]; rw [HEs5.out, HEs3.out] at HS5; exact HS5.out)
           obtain ⟨w7, hw7⟩ : ∃ w7, w7 = w5 := ⟨_, rfl⟩
           rw [← hw7] at HJ5 HS5' ⊢
           have HJ7 := HJ5
           have HS7 := HS5'
           clear hw7)
        have HSS : Hid ((⟨(j : Int), sF⟩ : Nd) = nsN 0 j (nrR l.length H j (a, b))) := Lib.hid (by
          rw [HSF.out, HEs5.out, HEs3.out]
          exact ns_row l.length j H a b (by rw [HHI.out]; omega))
        clear HSF HEs3 HEs5
        have HON1 : Hid (∀ u ∈ ndCells ⟨(j : Int), sF⟩, u.oneCell' = true) := Lib.hid (fun u hu => by
          have := Nd.one ⟨(j : Int), sF⟩ (A := none) (n := 0) (c := 0) (by
            have := congrArg (fun x : Nd => x.s.uv) HSS.out
            exact this.trans rfl)
          rw [List.all_toArray, List.all_eq_true] at this; exact this u hu)
        obtain ⟨c0, c1, c2⟩ := HJ7.out.t.c3
        have fT := HJ7.out.t.frozen
        rw [HLJ.out] at c0
        have HRG := Lib.hid (sty_rngT HS7.out)
        have HNN : Hid (w7.ownsRow w.heap.size 71 44 (.slice AN (j + 1) cN) (j + 1) (ndsCells (nsL 0 R))) := Lib.hid (by have := HJ7.out.n; rw [HLJ.out] at this; exact this)
        have HSZ7 := Lib.hid HJ7.out.l.size
        have hj9 : j + 1 + 1 ≤ 4294967296 := by have := HN.out; omega
        go_upto_region 14 with (fail)
        refine wp_region_lit ?_
        refine wpList_val (v := ?_) (w' := w7) rfl ?_ ?_
        rotate_left
        · go_simp
          rfl
        try simp only [Act.put, List.setIfInBounds_toArray, List.set_cons_zero, List.set_cons_succ, List.getElem_toArray, List.getElem_cons_zero, List.getElem_cons_succ]
        refine wpList_val (v := ?_) (w' := w7) rfl ?_ ?_
        rotate_left
        · go_simp
          rfl
        try simp only [Act.put, List.setIfInBounds_toArray, List.set_cons_zero, List.set_cons_succ, List.getElem_toArray, List.getElem_cons_zero, List.getElem_cons_succ]
        refine wpList_val (v := ?_) (w' := w7) rfl ?_ ?_
        rotate_left
        · go_simp
          rfl
        try simp only [Act.put, List.setIfInBounds_toArray, List.set_cons_zero, List.set_cons_succ, List.getElem_toArray, List.getElem_cons_zero, List.getElem_cons_succ]
        refine wpList_load_mid rfl 69 (.tmp 12) rfl g 0 rfl (styCells sF) _ HRG.out Try.underlying69 rfl (by kernel_rfl) ?_
        try simp only [Act.put, List.setIfInBounds_toArray, List.set_cons_zero, List.set_cons_succ, List.getElem_toArray, List.getElem_cons_zero, List.getElem_cons_succ]
        refine wpList_build rfl 71 #[(0, .tmp 71), (1, .tmp 72)] rfl (.agg (ndCells ⟨(j : Int), sF⟩).toArray) (by kernel_rfl) ?_
        try simp only [Act.put, List.setIfInBounds_toArray, List.set_cons_zero, List.set_cons_succ, List.getElem_toArray, List.getElem_cons_zero, List.getElem_cons_succ]
        refine wpList_rows rfl 22 1 #[(0, .tmp 73)] rfl (.slice (some ⟨w7.heap.size, 0, none⟩) 1 1) (w7.alloc (.cells (ndCells ⟨(j : Int), sF⟩).toArray 71)) (by kernel_rfl) ?_
        try simp only [Act.put, List.setIfInBounds_toArray, List.set_cons_zero, List.set_cons_succ, List.getElem_toArray, List.getElem_cons_zero, List.getElem_cons_succ]
        refine wpList_appG (m := 1) rfl _ _ rfl el_node HNN.out HSZ7.out rfl (ndCells ⟨(j : Int), sF⟩) rfl rfl (by rfl) HON1.out hj9 (by omega) ?_
        intro A' c' w8 hown hB hg hob
        have HJ8 : Hid (NwI w gT gA gB (R ++ [nrR l.length H j (a, b)]) j (jaF ⟨0, 0⟩ R) (jcF ⟨0, 0⟩ R) A' c' AU cU (w8.setCell ⟨gT, 0, none⟩ (.slice A' (j + 1 + 1) c'))) := Lib.hid (by
          have q := HJ7.out.appN (A' := A') (c' := c') (W' := w8) (nrR l.length H j (a, b)) (by rw [HLJ.out, ← HSS.out]; exact hown) (by rw [HLJ.out]; exact hg) (fun B w0 h1 h2 => hB B w0 h1 h2)
          rw [HLJ.out] at q; exact q)
        have hbt := HJ7.out.t.grown hg (fun e => own_blk_ne HNN.out HJ7.out.t (by decide) e.symm)
        have c0' := hbt.c3.1
        have fT' := hbt.frozen
        clear hown hB hg hob hbt c0 c1 c2 fT
        go_upto_region 15 with (fail)
        generalize World.setCell w8 _ _ = w9 at HJ8 ⊢
        have HSZ9 := Lib.hid HJ8.out.l.size
        go_upto_region 16 with (at_builtin; refine wpList_appG (m := 1) rfl _ _ rfl el_usedT HJ8.out.u HSZ9.out rfl [.int .i64 100, .int .i64 0, .int .i64 0] rfl rfl rfl (by simp [Value.oneCell']) hj9 (by omega) ?_; intro A2 c2 w10 hown hB hg hob; have HJ10 := Lib.hid (HJ8.out.appU hown hg (fun B w0 h1 h2 => hB B w0 h1 h2)); clear hown hB hg hob)
        have HJa := Lib.hid (jaF_B R ⟨0, 0⟩ HRO.out (by decide))
        have HJc : Hid ((0 ≤ (jcF ⟨0, 0⟩ R).most ∧ (jcF ⟨0, 0⟩ R).most ≤ 1048576) ∧ (-1048576 ≤ (jcF ⟨0, 0⟩ R).least ∧ (jcF ⟨0, 0⟩ R).least ≤ 0)) := Lib.hid (by rw [← jb_jc]; exact jbF_B R HRO.out)
        have HE1 : Hid (jaF ⟨0, 0⟩ (R ++ [nrR l.length H j (a, b)]) = joinF (jaF ⟨0, 0⟩ R) a) := Lib.hid (by unfold jaF; rw [List.foldl_append]; rfl)
        have HE2 : Hid (jcF ⟨0, 0⟩ (R ++ [nrR l.length H j (a, b)]) = joinF (jcF ⟨0, 0⟩ R) b) := Lib.hid (by unfold jcF; rw [List.foldl_append]; rfl)
        obtain ⟨sa, HSA⟩ : ∃ sa, Hid (sa = jaF ⟨0, 0⟩ R) := ⟨_, Lib.hid rfl⟩
        obtain ⟨sb, HSB⟩ : ∃ sb, Hid (sb = jcF ⟨0, 0⟩ R) := ⟨_, Lib.hid rfl⟩
        rw [← HSA.out, ← HSB.out] at HJ10
        rw [← HSA.out] at HJa HE1
        rw [← HSB.out] at HJc HE2
        clear HJ8 HJ7 HS7
        have HJN1 := Lib.hid (fun W => join14_any sa a W HJa.out.1.1 HJa.out.2.2)
        have HJN2 := Lib.hid (fun W => join14_any sb b W HJc.out.1.1 HJc.out.2.2)
        obtain ⟨sa2, HSA2⟩ : ∃ sa2, Hid (sa2 = joinF sa a) := ⟨_, Lib.hid rfl⟩
        obtain ⟨sb2, HSB2⟩ : ∃ sb2, Hid (sb2 = joinF sb b) := ⟨_, Lib.hid rfl⟩
        rw [← HSA2.out] at HJN1 HE1
        rw [← HSB2.out] at HJN2 HE2
        refine wp_region_S (fun bo _ _ W => NwI w gT gA gB (R ++ [nrR l.length H j (a, b)]) (j + 1) (if bo then sa2 else sa) sb A' c' A2 c2 W) 8 1000 100000 false true (by kernel_rfl) (by kernel_rfl) (by kernel_rfl) ((HJ10.out.bel (Below.refl _ _).drew)) ?_
        refine wpAnyS_take (i := 0) (v := ?_) rfl (by kernel_rfl) (by kernel_rfl) (by kernel_rfl) (fun _ _ _ h => h) (by rfl) (gives_pureF (by rfl) (by kernel_rfl) ?_) ?_
        rotate_left
        · intro d' u' W' hS'
          have hh : NwI w gT gA gB (R ++ [nrR l.length H j (a, b)]) (j + 1) sa sb A' c' A2 c2 W' := hS'
          obtain ⟨x0, x1⟩ := HXW.out W' hh.l
          obtain ⟨s0, s1⟩ := hh.a.c2
          have hbw : ad.block < W'.heap.size := Nat.lt_of_lt_of_le HBA.out hh.l.size
          go_simp
          rfl
        try simp only [Act.put, List.setIfInBounds_toArray, List.set_cons_zero, List.set_cons_succ, List.getElem_toArray, List.getElem_cons_zero, List.getElem_cons_succ]
        refine wpAnyS_take (i := 1) (v := ?_) rfl (by kernel_rfl) (by kernel_rfl) (by kernel_rfl) (fun _ _ _ h => h) (by rfl) (gives_pureF (by rfl) (by kernel_rfl) ?_) ?_
        rotate_left
        · intro d' u' W' hS'
          have hh : NwI w gT gA gB (R ++ [nrR l.length H j (a, b)]) (j + 1) sa sb A' c' A2 c2 W' := hS'
          obtain ⟨x0, x1⟩ := HXW.out W' hh.l
          obtain ⟨s0, s1⟩ := hh.a.c2
          have hbw : ad.block < W'.heap.size := Nat.lt_of_lt_of_le HBA.out hh.l.size
          go_simp
          rfl
        try simp only [Act.put, List.setIfInBounds_toArray, List.set_cons_zero, List.set_cons_succ, List.getElem_toArray, List.getElem_cons_zero, List.getElem_cons_succ]
        refine wpAnyS_take (i := 2) (v := ?_) rfl (by kernel_rfl) (by kernel_rfl) (by kernel_rfl) (fun _ _ _ h => h) (by rfl) (gives_pureF (by rfl) (by kernel_rfl) ?_) ?_
        rotate_left
        · intro d' u' W' hS'
          have hh : NwI w gT gA gB (R ++ [nrR l.length H j (a, b)]) (j + 1) sa sb A' c' A2 c2 W' := hS'
          obtain ⟨x0, x1⟩ := HXW.out W' hh.l
          obtain ⟨s0, s1⟩ := hh.a.c2
          have hbw : ad.block < W'.heap.size := Nat.lt_of_lt_of_le HBA.out hh.l.size
          go_simp
          rfl
        try simp only [Act.put, List.setIfInBounds_toArray, List.set_cons_zero, List.set_cons_succ, List.getElem_toArray, List.getElem_cons_zero, List.getElem_cons_succ]
        refine wpAnyS_take (i := 3) (v := ?_) rfl (by kernel_rfl) (by kernel_rfl) (by kernel_rfl) (fun _ _ _ h => h) (by rfl) (gives_pureF (by rfl) (by kernel_rfl) ?_) ?_
        rotate_left
        · intro d' u' W' hS'
          have hh : NwI w gT gA gB (R ++ [nrR l.length H j (a, b)]) (j + 1) sa sb A' c' A2 c2 W' := hS'
          obtain ⟨x0, x1⟩ := HXW.out W' hh.l
          obtain ⟨s0, s1⟩ := hh.a.c2
          have hbw : ad.block < W'.heap.size := Nat.lt_of_lt_of_le HBA.out hh.l.size
          go_simp
          rfl
        try simp only [Act.put, List.setIfInBounds_toArray, List.set_cons_zero, List.set_cons_succ, List.getElem_toArray, List.getElem_cons_zero, List.getElem_cons_succ]
        refine wpAnyS_take (i := 4) (v := ?_) rfl (by kernel_rfl) (by kernel_rfl) (by kernel_rfl) (fun _ _ _ h => h) (by rfl) (gives_pureF (by rfl) (by kernel_rfl) ?_) ?_
        rotate_left
        · intro d' u' W' hS'
          have hh : NwI w gT gA gB (R ++ [nrR l.length H j (a, b)]) (j + 1) sa sb A' c' A2 c2 W' := hS'
          obtain ⟨x0, x1⟩ := HXW.out W' hh.l
          obtain ⟨s0, s1⟩ := hh.a.c2
          have hbw : ad.block < W'.heap.size := Nat.lt_of_lt_of_le HBA.out hh.l.size
          go_simp
          rfl
        try simp only [Act.put, List.setIfInBounds_toArray, List.set_cons_zero, List.set_cons_succ, List.getElem_toArray, List.getElem_cons_zero, List.getElem_cons_succ]
        refine wpAnyS_take (i := 5) (v := ?_) rfl (by kernel_rfl) (by kernel_rfl) (by kernel_rfl) (fun _ _ _ h => h) (by rfl) (gives_pureF (by rfl) (by kernel_rfl) ?_) ?_
        rotate_left
        · intro d' u' W' hS'
          have hh : NwI w gT gA gB (R ++ [nrR l.length H j (a, b)]) (j + 1) sa sb A' c' A2 c2 W' := hS'
          obtain ⟨x0, x1⟩ := HXW.out W' hh.l
          obtain ⟨s0, s1⟩ := hh.a.c2
          have hbw : ad.block < W'.heap.size := Nat.lt_of_lt_of_le HBA.out hh.l.size
          go_simp
          rfl
        try simp only [Act.put, List.setIfInBounds_toArray, List.set_cons_zero, List.set_cons_succ, List.getElem_toArray, List.getElem_cons_zero, List.getElem_cons_succ]
        refine wpAnyS_take (i := 6) (v := ?_) rfl (by kernel_rfl) (by kernel_rfl) (by kernel_rfl) (fun _ _ _ h => h) (by rfl) (gives_pureF (by rfl) (by kernel_rfl) ?_) ?_
        rotate_left
        · intro d' u' W' hS'
          have hh : NwI w gT gA gB (R ++ [nrR l.length H j (a, b)]) (j + 1) sa sb A' c' A2 c2 W' := hS'
          obtain ⟨x0, x1⟩ := HXW.out W' hh.l
          obtain ⟨s0, s1⟩ := hh.a.c2
          have hbw : ad.block < W'.heap.size := Nat.lt_of_lt_of_le HBA.out hh.l.size
          go_simp
          rfl
        try simp only [Act.put, List.setIfInBounds_toArray, List.set_cons_zero, List.set_cons_succ, List.getElem_toArray, List.getElem_cons_zero, List.getElem_cons_succ]
        refine wpAnyS_take (i := 7) (v := .agg #[.int .i64 sa2.most, .int .i64 sa2.least]) rfl (by kernel_rfl) (by kernel_rfl) (by kernel_rfl) (fun _ _ _ h => h) (by rfl) (gives_callF (by rfl) (by kernel_rfl) _ _ ?_ (fun d' u' W' hS' => (HJN1.out W').mono (fun _ _ h => ⟨h.1, (show NwI w gT gA gB (R ++ [nrR l.length H j (a, b)]) (j + 1) sa sb A' c' A2 c2 W' from hS').bel h.2⟩))) ?_
        · intro W'
          first | rfl | kernel_rfl
        try simp only [Act.put, List.setIfInBounds_toArray, List.set_cons_zero, List.set_cons_succ, List.getElem_toArray, List.getElem_cons_zero, List.getElem_cons_succ]
        refine wpAnyS_store (i := 8) (d := true) (fun W' => (W'.setCell ⟨gA, 0, none⟩ (.int .i64 sa2.most)).setCell ⟨gA, 1, none⟩ (.int .i64 sa2.least)) rfl (by kernel_rfl) (by rfl) (by rfl) (by kernel_rfl) rfl ?_ (fun W' hS' => (show NwI w gT gA gB (R ++ [nrR l.length H j (a, b)]) (j + 1) sa sb A' c' A2 c2 W' from hS').setA sa2) ?_
        · intro W' hS'
          have hh : NwI w gT gA gB (R ++ [nrR l.length H j (a, b)]) (j + 1) sa sb A' c' A2 c2 W' := hS'
          obtain ⟨s0, s1⟩ := hh.a.c2
          have fs := hh.a.frozen
          go_simp
          try rfl
        try simp only [Act.put, List.setIfInBounds_toArray, List.set_cons_zero, List.set_cons_succ, List.getElem_toArray, List.getElem_cons_zero, List.getElem_cons_succ]
        refine wpAnyS_done (b := true) (d := true) (by kernel_rfl) (by kernel_rfl) (by kernel_rfl) rfl (fun w16 h16 => ?_) _
        have H16 : Hid (NwI w gT gA gB (R ++ [nrR l.length H j (a, b)]) (j + 1) sa2 sb A' c' A2 c2 w16) := Lib.hid h16
        clear h16
        go_upto_region 17 with (fail)
        refine wp_region_S (fun bo _ _ W => NwI w gT gA gB (R ++ [nrR l.length H j (a, b)]) (j + 1) sa2 (if bo then sb2 else sb) A' c' A2 c2 W) 8 1000 100000 false true (by kernel_rfl) (by kernel_rfl) (by kernel_rfl) ((H16.out.bel (Below.refl _ _).drew)) ?_
        refine wpAnyS_take (i := 0) (v := ?_) rfl (by kernel_rfl) (by kernel_rfl) (by kernel_rfl) (fun _ _ _ h => h) (by rfl) (gives_pureF (by rfl) (by kernel_rfl) ?_) ?_
        rotate_left
        · intro d' u' W' hS'
          have hh : NwI w gT gA gB (R ++ [nrR l.length H j (a, b)]) (j + 1) sa2 sb A' c' A2 c2 W' := hS'
          obtain ⟨x0, x1⟩ := HXW.out W' hh.l
          obtain ⟨s0, s1⟩ := hh.b.c2
          have hbw : ad.block < W'.heap.size := Nat.lt_of_lt_of_le HBA.out hh.l.size
          go_simp
          rfl
        try simp only [Act.put, List.setIfInBounds_toArray, List.set_cons_zero, List.set_cons_succ, List.getElem_toArray, List.getElem_cons_zero, List.getElem_cons_succ]
        refine wpAnyS_take (i := 1) (v := ?_) rfl (by kernel_rfl) (by kernel_rfl) (by kernel_rfl) (fun _ _ _ h => h) (by rfl) (gives_pureF (by rfl) (by kernel_rfl) ?_) ?_
        rotate_left
        · intro d' u' W' hS'
          have hh : NwI w gT gA gB (R ++ [nrR l.length H j (a, b)]) (j + 1) sa2 sb A' c' A2 c2 W' := hS'
          obtain ⟨x0, x1⟩ := HXW.out W' hh.l
          obtain ⟨s0, s1⟩ := hh.b.c2
          have hbw : ad.block < W'.heap.size := Nat.lt_of_lt_of_le HBA.out hh.l.size
          go_simp
          rfl
        try simp only [Act.put, List.setIfInBounds_toArray, List.set_cons_zero, List.set_cons_succ, List.getElem_toArray, List.getElem_cons_zero, List.getElem_cons_succ]
        refine wpAnyS_take (i := 2) (v := ?_) rfl (by kernel_rfl) (by kernel_rfl) (by kernel_rfl) (fun _ _ _ h => h) (by rfl) (gives_pureF (by rfl) (by kernel_rfl) ?_) ?_
        rotate_left
        · intro d' u' W' hS'
          have hh : NwI w gT gA gB (R ++ [nrR l.length H j (a, b)]) (j + 1) sa2 sb A' c' A2 c2 W' := hS'
          obtain ⟨x0, x1⟩ := HXW.out W' hh.l
          obtain ⟨s0, s1⟩ := hh.b.c2
          have hbw : ad.block < W'.heap.size := Nat.lt_of_lt_of_le HBA.out hh.l.size
          go_simp
          rfl
        try simp only [Act.put, List.setIfInBounds_toArray, List.set_cons_zero, List.set_cons_succ, List.getElem_toArray, List.getElem_cons_zero, List.getElem_cons_succ]
        refine wpAnyS_take (i := 3) (v := ?_) rfl (by kernel_rfl) (by kernel_rfl) (by kernel_rfl) (fun _ _ _ h => h) (by rfl) (gives_pureF (by rfl) (by kernel_rfl) ?_) ?_
        rotate_left
        · intro d' u' W' hS'
          have hh : NwI w gT gA gB (R ++ [nrR l.length H j (a, b)]) (j + 1) sa2 sb A' c' A2 c2 W' := hS'
          obtain ⟨x0, x1⟩ := HXW.out W' hh.l
          obtain ⟨s0, s1⟩ := hh.b.c2
          have hbw : ad.block < W'.heap.size := Nat.lt_of_lt_of_le HBA.out hh.l.size
          go_simp
          rfl
        try simp only [Act.put, List.setIfInBounds_toArray, List.set_cons_zero, List.set_cons_succ, List.getElem_toArray, List.getElem_cons_zero, List.getElem_cons_succ]
        refine wpAnyS_take (i := 4) (v := ?_) rfl (by kernel_rfl) (by kernel_rfl) (by kernel_rfl) (fun _ _ _ h => h) (by rfl) (gives_pureF (by rfl) (by kernel_rfl) ?_) ?_
        rotate_left
        · intro d' u' W' hS'
          have hh : NwI w gT gA gB (R ++ [nrR l.length H j (a, b)]) (j + 1) sa2 sb A' c' A2 c2 W' := hS'
          obtain ⟨x0, x1⟩ := HXW.out W' hh.l
          obtain ⟨s0, s1⟩ := hh.b.c2
          have hbw : ad.block < W'.heap.size := Nat.lt_of_lt_of_le HBA.out hh.l.size
          go_simp
          rfl
        try simp only [Act.put, List.setIfInBounds_toArray, List.set_cons_zero, List.set_cons_succ, List.getElem_toArray, List.getElem_cons_zero, List.getElem_cons_succ]
        refine wpAnyS_take (i := 5) (v := ?_) rfl (by kernel_rfl) (by kernel_rfl) (by kernel_rfl) (fun _ _ _ h => h) (by rfl) (gives_pureF (by rfl) (by kernel_rfl) ?_) ?_
        rotate_left
        · intro d' u' W' hS'
          have hh : NwI w gT gA gB (R ++ [nrR l.length H j (a, b)]) (j + 1) sa2 sb A' c' A2 c2 W' := hS'
          obtain ⟨x0, x1⟩ := HXW.out W' hh.l
          obtain ⟨s0, s1⟩ := hh.b.c2
          have hbw : ad.block < W'.heap.size := Nat.lt_of_lt_of_le HBA.out hh.l.size
          go_simp
          rfl
        try simp only [Act.put, List.setIfInBounds_toArray, List.set_cons_zero, List.set_cons_succ, List.getElem_toArray, List.getElem_cons_zero, List.getElem_cons_succ]
        refine wpAnyS_take (i := 6) (v := ?_) rfl (by kernel_rfl) (by kernel_rfl) (by kernel_rfl) (fun _ _ _ h => h) (by rfl) (gives_pureF (by rfl) (by kernel_rfl) ?_) ?_
        rotate_left
        · intro d' u' W' hS'
          have hh : NwI w gT gA gB (R ++ [nrR l.length H j (a, b)]) (j + 1) sa2 sb A' c' A2 c2 W' := hS'
          obtain ⟨x0, x1⟩ := HXW.out W' hh.l
          obtain ⟨s0, s1⟩ := hh.b.c2
          have hbw : ad.block < W'.heap.size := Nat.lt_of_lt_of_le HBA.out hh.l.size
          go_simp
          rfl
        try simp only [Act.put, List.setIfInBounds_toArray, List.set_cons_zero, List.set_cons_succ, List.getElem_toArray, List.getElem_cons_zero, List.getElem_cons_succ]
        refine wpAnyS_take (i := 7) (v := .agg #[.int .i64 sb2.most, .int .i64 sb2.least]) rfl (by kernel_rfl) (by kernel_rfl) (by kernel_rfl) (fun _ _ _ h => h) (by rfl) (gives_callF (by rfl) (by kernel_rfl) _ _ ?_ (fun d' u' W' hS' => (HJN2.out W').mono (fun _ _ h => ⟨h.1, (show NwI w gT gA gB (R ++ [nrR l.length H j (a, b)]) (j + 1) sa2 sb A' c' A2 c2 W' from hS').bel h.2⟩))) ?_
        · intro W'
          first | rfl | kernel_rfl
        try simp only [Act.put, List.setIfInBounds_toArray, List.set_cons_zero, List.set_cons_succ, List.getElem_toArray, List.getElem_cons_zero, List.getElem_cons_succ]
        refine wpAnyS_store (i := 8) (d := true) (fun W' => (W'.setCell ⟨gB, 0, none⟩ (.int .i64 sb2.most)).setCell ⟨gB, 1, none⟩ (.int .i64 sb2.least)) rfl (by kernel_rfl) (by rfl) (by rfl) (by kernel_rfl) rfl ?_ (fun W' hS' => (show NwI w gT gA gB (R ++ [nrR l.length H j (a, b)]) (j + 1) sa2 sb A' c' A2 c2 W' from hS').setB sb2) ?_
        · intro W' hS'
          have hh : NwI w gT gA gB (R ++ [nrR l.length H j (a, b)]) (j + 1) sa2 sb A' c' A2 c2 W' := hS'
          obtain ⟨s0, s1⟩ := hh.b.c2
          have fs := hh.b.frozen
          go_simp
          try rfl
        try simp only [Act.put, List.setIfInBounds_toArray, List.set_cons_zero, List.set_cons_succ, List.getElem_toArray, List.getElem_cons_zero, List.getElem_cons_succ]
        refine wpAnyS_done (b := true) (d := true) (by kernel_rfl) (by kernel_rfl) (by kernel_rfl) rfl (fun w17 h17 => ?_) _
        have H17 : Hid (NwI w gT gA gB (R ++ [nrR l.length H j (a, b)]) (j + 1) sa2 sb2 A' c' A2 c2 w17) := Lib.hid h17
        clear h17
        go_wp2_with fail
        rw [HGB.out, HGA.out, HGT.out]
        go_roundw
        case rel =>
          refine ⟨j + 1, A', c', A2, c2, by omega, rfl, by go_num, ?_⟩
          rw [HTK.out, HE1.out, HE2.out, ← HGB.out, ← HGA.out, ← HGT.out]
          exact H17
        case measure => simp [intOf]; omega
    · have d0 : decide ((j : Int) < (l.length : Int)) = false := decide_eq_false (by omega)
      have HJL : Hid (j = l.length) := Lib.hid (by omega)
      have HNS : Hid (NsR (rsN l H j) H) := Lib.hid (by rw [HJL.out]; exact rsN_R l H HI.out HN.out (by rw [HHI.out]; omega))
      have HAT : Hid (∀ i (h : i < l.length), (rsN l H j)[i]? = some (nrR l.length H i l[i])) := Lib.hid (fun i h => by rw [HJL.out]; exact rsN_at l H i h)
      have HRL : Hid ((rsN l H j).length = j) := Lib.hid (rsN_len l H j hj)
      obtain ⟨R, HRR⟩ : ∃ R, Hid (R = rsN l H j) := ⟨_, Lib.hid rfl⟩
      rw [← HRR.out] at HJ HNS HAT HRL
      have HSA := Lib.hid (jaF_B R ⟨0, 0⟩ (fun x hx => (HNS.out.r x hx).1) (by decide))
      have HSB := Lib.hid (jbF_B R (fun x hx => (HNS.out.r x hx).1))
      rw [jb_jc] at HSB
      obtain ⟨gN, hAN, _, _⟩ := own_some HJ.out.n (by omega)
      obtain ⟨gU, hAU, _, _⟩ := own_some HJ.out.u (by omega)
      subst hAN hAU
      have HRN0 : Hid (Reads wr wr.heap.size 44 (some ⟨gN, 0, none⟩) (j + 1) (ndsCells (nsL 0 R))) := Lib.hid (by have := Reads.of_own HJ.out.n; rw [HRL.out] at this; exact this)
      have q1 := Lib.hid (nblock0_any R H j HRL.out HNS.out _ _ cN cU wr HRN0.out (Reads.of_own HJ.out.u))
      rw [jb_jc] at q1
      obtain ⟨sa, HA⟩ : ∃ sa, Hid (sa = jaF ⟨0, 0⟩ R) := ⟨_, Lib.hid rfl⟩
      obtain ⟨sb, HB⟩ : ∃ sb, Hid (sb = jcF ⟨0, 0⟩ R) := ⟨_, Lib.hid rfl⟩
      rw [← HA.out, ← HB.out] at q1 HJ
      rw [← HA.out] at HSA
      rw [← HB.out] at HSB
      obtain ⟨HH, HHH⟩ : ∃ HH, Hid (HH = max 0 (sumF sa + H + sumF sb)) := ⟨_, Lib.hid rfl⟩
      rw [← HHH.out] at q1
      obtain ⟨t0, t1, t2⟩ := HJ.out.t.c3
      rw [HRL.out] at t0
      go_upto_region 19 with (go_at_call 20; refine q1.out.mono ?_; rintro e w1 ⟨Ab, cb, gF, gB', rfl, hf, hb⟩; have HF1 := Lib.hid hf; have HN1 := Lib.hid (HJ.out.bel hb); clear hf hb)
      clear q1 t0 t1 t2 HRN0 HJ
      obtain ⟨gI, HGI⟩ : ∃ gI, Hid (gI = w1.heap.size) := ⟨_, Lib.hid rfl⟩
      obtain ⟨w2, hw2⟩ : ∃ w2, w2 = w1.alloc (.cells #[.slice Ab j cb, .slice (some ⟨gF, 0, none⟩) j j, .slice (some ⟨gB', 0, none⟩) j j, .int .i64 HH, .slice none 0 0, .bool false] 52) := ⟨_, rfl⟩
      have HBA : Hid (Below w1.heap.size w1 w2) := Lib.hid (by rw [hw2]; exact (Below.refl _ _).alloc (Nat.le_refl _) _)
      have HIB : Hid (Blk w2 gI 52 #[.slice Ab j cb, .slice (some ⟨gF, 0, none⟩) j j, .slice (some ⟨gB', 0, none⟩) j j, .int .i64 HH, .slice none 0 0, .bool false]) := Lib.hid (by rw [hw2, HGI.out]; exact Blk.new _ _ _)
      have HN2 := Lib.hid (HN1.out.bel HBA.out)
      have HF2 := Lib.hid (HF1.out.below HBA.out HF1.out.lt)
      rw [← hw2, ← HGI.out]
      clear hw2 HF1 HN1 HBA HGI
      have i1 := HIB.out.get 1 (v := .slice (some ⟨gF, 0, none⟩) j j) rfl
      have e1 : ((j : Int) != (l.length : Int)) = false := by rw [HJL.out]; simp
      go_upto_region 22 with (fail)
      clear i1 e1
      go_loopw [14] (fun q14 wr => ∃ (i : Nat), i ≤ j ∧ q14 = .int .i64 (i : Int) ∧ Hid (Below w2.heap.size w2 wr)) (fun q _ => j - (intOf q).toNat)
      case atStart => exact ⟨0, by omega, rfl, Lib.hid (Below.refl _ _)⟩
      case round =>
        obtain ⟨i, hi2, rfl, HBr⟩ := hrel
        by_cases hij : i < j
        · have d0 : decide ((i : Int) < (l.length : Int)) = true := decide_eq_true (by rw [← HJL.out]; omega)
          have hwk : IntKind.i64.wrap ((i : Int) + 1) = (i : Int) + 1 := IntWalk.i64_in _ ⟨by omega, by have := HN.out; have := HJL.out; omega⟩
          have hw4 : IntKind.i64.wrap (hi : Int) = (hi : Int) := IntWalk.i64_in _ ⟨by omega, by omega⟩
          have hw5 : IntKind.i64.wrap ((hi : Int) + 1) = (hi : Int) + 1 := IntWalk.i64_in _ ⟨by omega, by omega⟩
          have HNr := Lib.hid (HN2.out.bel HBr.out)
          have HFr := Lib.hid (HF2.out.below HBr.out HF2.out.lt)
          have HIr := Lib.hid (HIB.out.below HBr.out HIB.out.lt)
          have hij2 : (i : Int) < (j : Int) := by omega
          have eH : ((hi : Int) + 1 != (hi : Int) + 1) = false := by simp
          by_cases h0 : i = 0
          · have e0 : ((i : Int) == 0) = true := by rw [beq_iff_eq]; omega
            obtain ⟨s0, s1⟩ := HNr.out.a.c2
            have HSM := Lib.hid (fun W => sum14_any sa.most sa.least W (by have := HSA.out; omega))
            have HFY : Hid (∀ W', Below wr.heap.size wr W' → W'.cell? ⟨gF, i * 5 + 1, none⟩ = some (.int .i64 (sa.most + sa.least)) ∧ W'.cell? ⟨gF, i * 5 + 3, none⟩ = some (.int .i64 ((hi : Int) + 1))) := Lib.hid (fun W' hb => by
              have h := frag_c (HFr.out.below hb HFr.out.lt) i hij
              unfold nF0 at h
              rw [if_pos h0] at h
              rw [← HHI.out]
              exact ⟨h.2.1, h.2.2.2.1⟩)
            clear h0
            go_upto_region 27 with (go_at_call 22; refine (HSM.out _).mono ?_; rintro e w3 ⟨rfl, hw3⟩; have HB3 : Hid (Below wr.heap.size wr w3) := Lib.hid (hw3 ▸ (Below.refl _ _).alloc (Nat.le_refl _) _); clear hw3)
            obtain ⟨f1, f3⟩ := HFY.out w3 HB3.out
            have i1 := (HIr.out.below HB3.out HIr.out.lt).get 1 (v := .slice (some ⟨gF, 0, none⟩) j j) rfl
            have eS : (sa.most + sa.least != sa.most + sa.least) = false := by simp
            go_wp2_with fail
            go_roundw
            case rel => exact ⟨i + 1, by omega, by go_num, Lib.hid (HBr.out.trans (HB3.out.mono HBr.out.size))⟩
            case measure => simp [intOf]; omega
          · have e0 : ((i : Int) == 0) = false := beq_eq_false_iff_ne.2 (by omega)
            have h := frag_c HFr.out i hij
            unfold nF0 at h
            rw [if_neg h0] at h
            have f1 := h.2.1
            have f3 : wr.cell? ⟨gF, i * 5 + 3, none⟩ = some (.int .i64 ((hi : Int) + 1)) := by rw [← HHI.out]; exact h.2.2.2.1
            dsimp only at f1
            clear h
            have i1 := HIr.out.get 1 (v := .slice (some ⟨gF, 0, none⟩) j j) rfl
            go_wp2_with fail
            go_roundw
            case rel => exact ⟨i + 1, by omega, by go_num, HBr⟩
            case measure => simp [intOf]; omega
        · have d0 : decide ((i : Int) < (l.length : Int)) = false := decide_eq_false (by rw [← HJL.out]; omega)
          have hsa := HSA.out
          have hsb := HSB.out
          have hw4 : IntKind.i64.wrap (hi : Int) = (hi : Int) := IntWalk.i64_in _ ⟨by omega, by omega⟩
          have hw6 : IntKind.i64.wrap (sa.most + sa.least + (hi : Int)) = sa.most + sa.least + (hi : Int) := IntWalk.i64_in _ ⟨by omega, by omega⟩
          have hw7 : IntKind.i64.wrap (sa.most + sa.least + (hi : Int) + 1) = sa.most + sa.least + (hi : Int) + 1 := IntWalk.i64_in _ ⟨by omega, by omega⟩
          have hw8 : IntKind.i64.wrap (sa.most + sa.least + (hi : Int) + 1 + (sb.most + sb.least)) = sa.most + sa.least + (hi : Int) + 1 + (sb.most + sb.least) := IntWalk.i64_in _ ⟨by omega, by omega⟩
          have HSM := Lib.hid (fun W => sum14_any sa.most sa.least W (by omega))
          have HSN := Lib.hid (fun W => sum14_any sb.most sb.least W (by omega))
          have HE := Lib.hid (show HH = max (sa.most + sa.least + (hi : Int) + 1 + (sb.most + sb.least)) 0 by rw [HHH.out, HHI.out]; unfold sumF; omega)
          have HNr := Lib.hid (HN2.out.bel HBr.out)
          have HIr := Lib.hid (HIB.out.below HBr.out HIB.out.lt)
          clear hsa hsb
          go_upto_region 29 with (fail)
          refine wp_region_S (fun _ _ _ W => Below wr.heap.size wr W) 1000 1000 100000 true true (by kernel_rfl) (by kernel_rfl) (by kernel_rfl) ((Below.refl _ _).drew) ?_
          refine wpAnyS_take (i := 0) (v := ?_) rfl (by kernel_rfl) (by kernel_rfl) (by kernel_rfl) (fun _ _ _ h => h) (by rfl) (gives_pure (by rfl) ?_) ?_
          rotate_left
          · intro b' d' u' W' hS'
            have hh := HNr.out.bel hS'
            obtain ⟨s0, s1⟩ := hh.a.c2
            obtain ⟨s2, s3⟩ := hh.b.c2
            have i3 := (HIr.out.below hS' HIr.out.lt).get 3 (v := .int .i64 HH) rfl
            have e0 : (HH != max (sa.most + sa.least + (hi : Int) + 1 + (sb.most + sb.least)) 0) = false := by rw [HE.out]; simp
            go_simp
            rfl
          try simp only [Act.put, List.setIfInBounds_toArray, List.set_cons_zero, List.set_cons_succ, List.getElem_toArray, List.getElem_cons_zero, List.getElem_cons_succ]
          refine wpAnyS_take (i := 1) (v := ?_) rfl (by kernel_rfl) (by kernel_rfl) (by kernel_rfl) (fun _ _ _ h => h) (by rfl) (gives_pure (by rfl) ?_) ?_
          rotate_left
          · intro b' d' u' W' hS'
            have hh := HNr.out.bel hS'
            obtain ⟨s0, s1⟩ := hh.a.c2
            obtain ⟨s2, s3⟩ := hh.b.c2
            have i3 := (HIr.out.below hS' HIr.out.lt).get 3 (v := .int .i64 HH) rfl
            have e0 : (HH != max (sa.most + sa.least + (hi : Int) + 1 + (sb.most + sb.least)) 0) = false := by rw [HE.out]; simp
            go_simp
            rfl
          try simp only [Act.put, List.setIfInBounds_toArray, List.set_cons_zero, List.set_cons_succ, List.getElem_toArray, List.getElem_cons_zero, List.getElem_cons_succ]
          refine wpAnyS_take (i := 2) (v := ?_) rfl (by kernel_rfl) (by kernel_rfl) (by kernel_rfl) (fun _ _ _ h => h) (by rfl) (gives_pure (by rfl) ?_) ?_
          rotate_left
          · intro b' d' u' W' hS'
            have hh := HNr.out.bel hS'
            obtain ⟨s0, s1⟩ := hh.a.c2
            obtain ⟨s2, s3⟩ := hh.b.c2
            have i3 := (HIr.out.below hS' HIr.out.lt).get 3 (v := .int .i64 HH) rfl
            have e0 : (HH != max (sa.most + sa.least + (hi : Int) + 1 + (sb.most + sb.least)) 0) = false := by rw [HE.out]; simp
            go_simp
            rfl
          try simp only [Act.put, List.setIfInBounds_toArray, List.set_cons_zero, List.set_cons_succ, List.getElem_toArray, List.getElem_cons_zero, List.getElem_cons_succ]
          refine wpAnyS_take (i := 3) (v := .int .i64 (sa.most + sa.least)) rfl (by kernel_rfl) (by kernel_rfl) (by kernel_rfl) (fun _ _ _ h => h) (by rfl) (gives_call (by rfl) _ _ ?_ (fun b' d' u' W' hS' => (HSM.out W').mono (fun _ _ h => ⟨h.1, h.2 ▸ hS'.alloc hS'.size _⟩))) ?_
          · intro W'
            first | rfl | kernel_rfl
          try simp only [Act.put, List.setIfInBounds_toArray, List.set_cons_zero, List.set_cons_succ, List.getElem_toArray, List.getElem_cons_zero, List.getElem_cons_succ]
          refine wpAnyS_take (i := 4) (v := ?_) rfl (by kernel_rfl) (by kernel_rfl) (by kernel_rfl) (fun _ _ _ h => h) (by rfl) (gives_pure (by rfl) ?_) ?_
          rotate_left
          · intro b' d' u' W' hS'
            have hh := HNr.out.bel hS'
            obtain ⟨s0, s1⟩ := hh.a.c2
            obtain ⟨s2, s3⟩ := hh.b.c2
            have i3 := (HIr.out.below hS' HIr.out.lt).get 3 (v := .int .i64 HH) rfl
            have e0 : (HH != max (sa.most + sa.least + (hi : Int) + 1 + (sb.most + sb.least)) 0) = false := by rw [HE.out]; simp
            go_simp
            rfl
          try simp only [Act.put, List.setIfInBounds_toArray, List.set_cons_zero, List.set_cons_succ, List.getElem_toArray, List.getElem_cons_zero, List.getElem_cons_succ]
          refine wpAnyS_take (i := 5) (v := ?_) rfl (by kernel_rfl) (by kernel_rfl) (by kernel_rfl) (fun _ _ _ h => h) (by rfl) (gives_pure (by rfl) ?_) ?_
          rotate_left
          · intro b' d' u' W' hS'
            have hh := HNr.out.bel hS'
            obtain ⟨s0, s1⟩ := hh.a.c2
            obtain ⟨s2, s3⟩ := hh.b.c2
            have i3 := (HIr.out.below hS' HIr.out.lt).get 3 (v := .int .i64 HH) rfl
            have e0 : (HH != max (sa.most + sa.least + (hi : Int) + 1 + (sb.most + sb.least)) 0) = false := by rw [HE.out]; simp
            go_simp
            rfl
          try simp only [Act.put, List.setIfInBounds_toArray, List.set_cons_zero, List.set_cons_succ, List.getElem_toArray, List.getElem_cons_zero, List.getElem_cons_succ]
          refine wpAnyS_take (i := 6) (v := ?_) rfl (by kernel_rfl) (by kernel_rfl) (by kernel_rfl) (fun _ _ _ h => h) (by rfl) (gives_pure (by rfl) ?_) ?_
          rotate_left
          · intro b' d' u' W' hS'
            have hh := HNr.out.bel hS'
            obtain ⟨s0, s1⟩ := hh.a.c2
            obtain ⟨s2, s3⟩ := hh.b.c2
            have i3 := (HIr.out.below hS' HIr.out.lt).get 3 (v := .int .i64 HH) rfl
            have e0 : (HH != max (sa.most + sa.least + (hi : Int) + 1 + (sb.most + sb.least)) 0) = false := by rw [HE.out]; simp
            go_simp
            rfl
          try simp only [Act.put, List.setIfInBounds_toArray, List.set_cons_zero, List.set_cons_succ, List.getElem_toArray, List.getElem_cons_zero, List.getElem_cons_succ]
          refine wpAnyS_take (i := 7) (v := ?_) rfl (by kernel_rfl) (by kernel_rfl) (by kernel_rfl) (fun _ _ _ h => h) (by rfl) (gives_pure (by rfl) ?_) ?_
          rotate_left
          · intro b' d' u' W' hS'
            have hh := HNr.out.bel hS'
            obtain ⟨s0, s1⟩ := hh.a.c2
            obtain ⟨s2, s3⟩ := hh.b.c2
            have i3 := (HIr.out.below hS' HIr.out.lt).get 3 (v := .int .i64 HH) rfl
            have e0 : (HH != max (sa.most + sa.least + (hi : Int) + 1 + (sb.most + sb.least)) 0) = false := by rw [HE.out]; simp
            go_simp
            rfl
          try simp only [Act.put, List.setIfInBounds_toArray, List.set_cons_zero, List.set_cons_succ, List.getElem_toArray, List.getElem_cons_zero, List.getElem_cons_succ]
          refine wpAnyS_take (i := 8) (v := ?_) rfl (by kernel_rfl) (by kernel_rfl) (by kernel_rfl) (fun _ _ _ h => h) (by rfl) (gives_pure (by rfl) ?_) ?_
          rotate_left
          · intro b' d' u' W' hS'
            have hh := HNr.out.bel hS'
            obtain ⟨s0, s1⟩ := hh.a.c2
            obtain ⟨s2, s3⟩ := hh.b.c2
            have i3 := (HIr.out.below hS' HIr.out.lt).get 3 (v := .int .i64 HH) rfl
            have e0 : (HH != max (sa.most + sa.least + (hi : Int) + 1 + (sb.most + sb.least)) 0) = false := by rw [HE.out]; simp
            go_simp
            rfl
          try simp only [Act.put, List.setIfInBounds_toArray, List.set_cons_zero, List.set_cons_succ, List.getElem_toArray, List.getElem_cons_zero, List.getElem_cons_succ]
          refine wpAnyS_take (i := 9) (v := .int .i64 (sb.most + sb.least)) rfl (by kernel_rfl) (by kernel_rfl) (by kernel_rfl) (fun _ _ _ h => h) (by rfl) (gives_call (by rfl) _ _ ?_ (fun b' d' u' W' hS' => (HSN.out W').mono (fun _ _ h => ⟨h.1, h.2 ▸ hS'.alloc hS'.size _⟩))) ?_
          · intro W'
            first | rfl | kernel_rfl
          try simp only [Act.put, List.setIfInBounds_toArray, List.set_cons_zero, List.set_cons_succ, List.getElem_toArray, List.getElem_cons_zero, List.getElem_cons_succ]
          refine wpAnyS_take (i := 10) (v := ?_) rfl (by kernel_rfl) (by kernel_rfl) (by kernel_rfl) (fun _ _ _ h => h) (by rfl) (gives_pure (by rfl) ?_) ?_
          rotate_left
          · intro b' d' u' W' hS'
            have hh := HNr.out.bel hS'
            obtain ⟨s0, s1⟩ := hh.a.c2
            obtain ⟨s2, s3⟩ := hh.b.c2
            have i3 := (HIr.out.below hS' HIr.out.lt).get 3 (v := .int .i64 HH) rfl
            have e0 : (HH != max (sa.most + sa.least + (hi : Int) + 1 + (sb.most + sb.least)) 0) = false := by rw [HE.out]; simp
            go_simp
            rfl
          try simp only [Act.put, List.setIfInBounds_toArray, List.set_cons_zero, List.set_cons_succ, List.getElem_toArray, List.getElem_cons_zero, List.getElem_cons_succ]
          refine wpAnyS_take (i := 11) (v := ?_) rfl (by kernel_rfl) (by kernel_rfl) (by kernel_rfl) (fun _ _ _ h => h) (by rfl) (gives_pure (by rfl) ?_) ?_
          rotate_left
          · intro b' d' u' W' hS'
            have hh := HNr.out.bel hS'
            obtain ⟨s0, s1⟩ := hh.a.c2
            obtain ⟨s2, s3⟩ := hh.b.c2
            have i3 := (HIr.out.below hS' HIr.out.lt).get 3 (v := .int .i64 HH) rfl
            have e0 : (HH != max (sa.most + sa.least + (hi : Int) + 1 + (sb.most + sb.least)) 0) = false := by rw [HE.out]; simp
            go_simp
            rfl
          try simp only [Act.put, List.setIfInBounds_toArray, List.set_cons_zero, List.set_cons_succ, List.getElem_toArray, List.getElem_cons_zero, List.getElem_cons_succ]
          refine wpAnyS_take (i := 12) (v := ?_) rfl (by kernel_rfl) (by kernel_rfl) (by kernel_rfl) (fun _ _ _ h => h) (by rfl) (gives_pure (by rfl) ?_) ?_
          rotate_left
          · intro b' d' u' W' hS'
            have hh := HNr.out.bel hS'
            obtain ⟨s0, s1⟩ := hh.a.c2
            obtain ⟨s2, s3⟩ := hh.b.c2
            have i3 := (HIr.out.below hS' HIr.out.lt).get 3 (v := .int .i64 HH) rfl
            have e0 : (HH != max (sa.most + sa.least + (hi : Int) + 1 + (sb.most + sb.least)) 0) = false := by rw [HE.out]; simp
            go_simp
            rfl
          try simp only [Act.put, List.setIfInBounds_toArray, List.set_cons_zero, List.set_cons_succ, List.getElem_toArray, List.getElem_cons_zero, List.getElem_cons_succ]
          refine wpAnyS_done (b := true) (d := true) (by kernel_rfl) (by kernel_rfl) (by kernel_rfl) rfl (fun w29 h29 => ?_) _
          have HNs := Lib.hid (HNr.out.bel h29)
          clear h29
          by_cases hl2 : l.length < 2
          · have d2 : decide ((l.length : Int) < 2) = true := decide_eq_true (by omega)
            go_wp2_with (go_at_call 18; refine (works22_any _).mono ?_; rintro e w40 ⟨rfl, hb⟩; have HW40 := Lib.hid (hb.mono HNs.out.l.size); clear hb)
            go_ret
            exact ⟨rfl, HNs.out.l.trans HW40.out⟩
          have d2 : decide ((l.length : Int) < 2) = false := decide_eq_false (by omega)
          have HL2 : Hid (2 ≤ j) := Lib.hid (by rw [HJL.out]; omega)
          clear hl2
          have hwb : IntKind.i64.wrap (bd : Int) = (bd : Int) := IntWalk.i64_in _ ⟨by omega, by omega⟩
          have hwb2 : IntKind.i64.wrap ((bd : Int) + 1) = (bd : Int) + 1 := IntWalk.i64_in _ ⟨by omega, by omega⟩
          obtain ⟨t0, t1, t2⟩ := HNs.out.t.c3
          rw [HRL.out] at t0
          have HNn : Hid (w29.ownsRow w.heap.size 71 44 (.slice (some ⟨gN, 0, none⟩) (j + 1) cN) (j + 1) (ndsCells (nsL 0 R))) := Lib.hid (by have := HNs.out.n; rw [HRL.out] at this; exact this)
          have hxN : ∀ i, i < 88 → ∃ v, w29.cell? ⟨gN, i, none⟩ = some v := fun i h => ⟨(ndsCells (nsL 0 R))[i]'(by rw [HNn.out.1]; have := HL2.out; omega), by rw [HNn.out.cellAt i (by have := HL2.out; omega)]; exact List.getElem?_eq_getElem _⟩
          obtain ⟨v0, c0⟩ := hxN 69 (by omega)
          obtain ⟨v1, c1⟩ := hxN 70 (by omega)
          obtain ⟨v2, c2⟩ := hxN 71 (by omega)
          obtain ⟨v3, c3⟩ := hxN 72 (by omega)
          have fN := HNn.out.frozenAt
          have hz1 : (1 : Int) < (j : Int) + 1 := by have := HL2.out; omega
          have hz2 : 1 < j + 1 := by have := HL2.out; omega
          clear hxN
          go_upto_region 34 with (fail)
          have HGN : Hid (w.heap.size ≤ gN) := Lib.hid (HNn.out.lt gN rfl).1
          obtain ⟨w3, hw3⟩ : ∃ w3, w3 = (((w29.setCell ⟨gN, 69, none⟩ (.int .i64 ((bd : Int) + 1))).setCell ⟨gN, 70, none⟩ (.int .i64 0)).setCell ⟨gN, 71, none⟩ (.int .i64 0)).setCell ⟨gN, 72, none⟩ (.int .i64 0) := ⟨_, rfl⟩
          have hnt := own_blk_ne HNn.out HNs.out.t (by decide)
          have hng : ∀ i : Nat, gT ≠ (⟨gN, i, none⟩ : Addr).block := fun i e => hnt (by rw [e]; rfl)
          have HT3 : Hid (Blk w3 gT 25 #[.slice (some ⟨gN, 0, none⟩) (j + 1) cN, .slice none 0 0, .int .i64 100]) := Lib.hid (by
            have h := HNs.out.t
            rw [HRL.out] at h
            rw [hw3]; exact (((h.far (hng 69) _).far (hng 70) _).far (hng 71) _).far (hng 72) _)
          have HN3 : Hid (w3.ownsRow w.heap.size 71 44 (.slice (some ⟨gN, 0, none⟩) (j + 1) cN) (j + 1) (ndsCells (nsL ((bd : Int) + 1) R))) := Lib.hid (by
            rw [hw3, nds_bo _ R (by rw [HRL.out]; have := HL2.out; omega)]
            exact ((((HNn.out.stored 69 _).1.stored 70 _).1.stored 71 _).1.stored 72 _).1)
          have hnu := own_apart HNs.out.u HNn.out (by decide)
          have HU3 : Hid (w3.ownsRow w.heap.size 27 3 (.slice (some ⟨gU, 0, none⟩) (j + 1) cU) (j + 1) (udsCells (wkU (j + 1)))) := Lib.hid (by
            rw [hw3]
            exact ownsRow_setCell_other (ownsRow_setCell_other (ownsRow_setCell_other (ownsRow_setCell_other HNs.out.u (a := ⟨gN, 69, none⟩) (apart_ne hnu rfl) _) (a := ⟨gN, 70, none⟩) (apart_ne hnu rfl) _) (a := ⟨gN, 71, none⟩) (apart_ne hnu rfl) _) (a := ⟨gN, 72, none⟩) (apart_ne hnu rfl) _)
          have HW3 : Hid (Below w.heap.size w w3) := Lib.hid (by
            rw [hw3]
            exact (((HNs.out.l.setCell (p := ⟨gN, 69, none⟩) HGN.out _).setCell (p := ⟨gN, 70, none⟩) HGN.out _).setCell (p := ⟨gN, 71, none⟩) HGN.out _).setCell (p := ⟨gN, 72, none⟩) HGN.out _)
          rw [← hw3]
          clear hw3 t0 t1 t2 c0 c1 c2 c3 fN hz1 hz2 hwb hwb2 hnt hng hnu
          obtain ⟨gC, HGC⟩ : ∃ gC, Hid (gC = w3.heap.size) := ⟨_, Lib.hid rfl⟩
          go_upto_region 36 with (fail)
          rw [← HGC.out]
          have HC0 : Hid (Blk (w3.alloc (.cells #[.int .i64 0, .int .i64 0] 55)) gC 55 (sttC ⟨0, 0⟩) ∧ Below gC w3 (w3.alloc (.cells #[.int .i64 0, .int .i64 0] 55))) := Lib.hid ⟨Blk.at_ _ _ _ HGC.out, (Below.refl _ _).alloc (by rw [HGC.out]; exact Nat.le_refl _) _⟩
          have HL0 : Hid (0 < l.length) := Lib.hid (by have := HN.out; omega)
          obtain ⟨ad, hA, hbA, _⟩ := HR.out.row2 rfl HL0.out (Below.refl w.heap.size w)
          subst hA
          have HRR2 : Hid (∀ i (h : i < l.length) W', Below w.heap.size w W' → W'.cell? (ad.add (i * 2)) = some (.int .i16 (l[i]).1)) := Lib.hid (fun i h W' hb => by
            obtain ⟨ad2, e2, _, hh⟩ := HR.out.row2 rfl h (Below.refl w.heap.size w)
            injection e2 with e2
            subst e2
            exact (hh W' hb).1)
          have HBA := Lib.hid hbA
          clear hbA
          go_loopw [17] (fun q17 wr => ∃ (i : Nat), 1 ≤ i ∧ i ≤ j ∧ q17 = .int .i64 (i : Int) ∧ Hid (Blk wr gC 55 (sttC (jaF ⟨0, 0⟩ ((R.take i).drop 1))) ∧ Below gC w3 wr)) (fun q _ => j - (intOf q).toNat)
          case atStart => exact ⟨1, by omega, by have := HL2.out; omega, rfl, Lib.hid (by
            have e : (R.take 1).drop 1 = [] := List.drop_eq_nil_of_le (by rw [List.length_take]; omega)
            rw [e]; exact HC0.out)⟩
          case round =>
            obtain ⟨i, h1i, hi3, rfl, HCr⟩ := hrel
            by_cases hij : i < j
            · have d0 : decide ((i : Int) < (l.length : Int)) = true := decide_eq_true (by rw [← HJL.out]; omega)
              have hil : i < l.length := by rw [← HJL.out]; exact hij
              have hwk : IntKind.i64.wrap ((i : Int) + 1) = (i : Int) + 1 := IntWalk.i64_in _ ⟨by omega, by have := HN.out; omega⟩
              have hra := HAT.out i hil
              have HTK : Hid (jaF ⟨0, 0⟩ ((R.take (i + 1)).drop 1) = joinF (jaF ⟨0, 0⟩ ((R.take i).drop 1)) (l[i]).1) := Lib.hid (by
                rw [List.take_add_one, hra, List.drop_append_of_le_length (by rw [List.length_take, HRL.out]; omega)]
                unfold jaF
                rw [List.foldl_append]; rfl)
              have HJ0 := Lib.hid (jaF_B ((R.take i).drop 1) ⟨0, 0⟩ (fun x hx => (HNS.out.r x (List.mem_of_mem_take (List.mem_of_mem_drop hx))).1) (by decide))
              have HIN := Lib.hid (HI.out _ (List.getElem_mem hil))
              have HX := Lib.hid (HRR2.out i hil)
              obtain ⟨a, ha⟩ : ∃ a, a = (l[i]).1 := ⟨_, rfl⟩
              rw [← ha] at HTK HX
              have hab : -32768 ≤ a ∧ a ≤ 32767 := by rw [ha]; exact HIN.out.1
              have hw2 : IntKind.i64.wrap a = a := IntWalk.i64_in _ ⟨by omega, by omega⟩
              clear ha hab hra
              obtain ⟨s, HS⟩ : ∃ s, Hid (s = jaF ⟨0, 0⟩ ((R.take i).drop 1)) := ⟨_, Lib.hid rfl⟩
              rw [← HS.out] at HTK HJ0 HCr
              have HJN := Lib.hid (fun W => join14_any s a W HJ0.out.1.1 HJ0.out.2.2)
              obtain ⟨s2, HS2⟩ : ∃ s2, Hid (s2 = joinF s a) := ⟨_, Lib.hid rfl⟩
              rw [← HS2.out] at HTK HJN
              have hij2 : (i : Int) < (l.length : Int) := by omega
              go_upto_region 38 with (fail)
              refine wp_region_S (fun bo _ _ W => Blk W gC 55 (if bo then sttC s2 else sttC s) ∧ Below gC w3 W) 8 1000 100000 false true (by kernel_rfl) (by kernel_rfl) (by kernel_rfl) ((FtS.bel HGC.out HCr.out (Below.refl _ _).drew)) ?_
              refine wpAnyS_take (i := 0) (v := ?_) rfl (by kernel_rfl) (by kernel_rfl) (by kernel_rfl) (fun _ _ _ h => h) (by rfl) (gives_pureF (by rfl) (by kernel_rfl) ?_) ?_
              rotate_left
              · intro d' u' W' hS'
                have hh : Blk W' gC 55 (sttC s) ∧ Below gC w3 W' := hS'
                have hbl : Below w.heap.size w W' := HW3.out.trans (hh.2.mono (by rw [HGC.out]; exact HW3.out.size))
                have x0 := HX.out W' hbl
                obtain ⟨s0, s1⟩ := hh.1.c2
                have hbw : ad.block < W'.heap.size := Nat.lt_of_lt_of_le HBA.out hbl.size
                go_simp
                rfl
              try simp only [Act.put, List.setIfInBounds_toArray, List.set_cons_zero, List.set_cons_succ, List.getElem_toArray, List.getElem_cons_zero, List.getElem_cons_succ]
              refine wpAnyS_take (i := 1) (v := ?_) rfl (by kernel_rfl) (by kernel_rfl) (by kernel_rfl) (fun _ _ _ h => h) (by rfl) (gives_pureF (by rfl) (by kernel_rfl) ?_) ?_
              rotate_left
              · intro d' u' W' hS'
                have hh : Blk W' gC 55 (sttC s) ∧ Below gC w3 W' := hS'
                have hbl : Below w.heap.size w W' := HW3.out.trans (hh.2.mono (by rw [HGC.out]; exact HW3.out.size))
                have x0 := HX.out W' hbl
                obtain ⟨s0, s1⟩ := hh.1.c2
                have hbw : ad.block < W'.heap.size := Nat.lt_of_lt_of_le HBA.out hbl.size
                go_simp
                rfl
              try simp only [Act.put, List.setIfInBounds_toArray, List.set_cons_zero, List.set_cons_succ, List.getElem_toArray, List.getElem_cons_zero, List.getElem_cons_succ]
              refine wpAnyS_take (i := 2) (v := ?_) rfl (by kernel_rfl) (by kernel_rfl) (by kernel_rfl) (fun _ _ _ h => h) (by rfl) (gives_pureF (by rfl) (by kernel_rfl) ?_) ?_
              rotate_left
              · intro d' u' W' hS'
                have hh : Blk W' gC 55 (sttC s) ∧ Below gC w3 W' := hS'
                have hbl : Below w.heap.size w W' := HW3.out.trans (hh.2.mono (by rw [HGC.out]; exact HW3.out.size))
                have x0 := HX.out W' hbl
                obtain ⟨s0, s1⟩ := hh.1.c2
                have hbw : ad.block < W'.heap.size := Nat.lt_of_lt_of_le HBA.out hbl.size
                go_simp
                rfl
              try simp only [Act.put, List.setIfInBounds_toArray, List.set_cons_zero, List.set_cons_succ, List.getElem_toArray, List.getElem_cons_zero, List.getElem_cons_succ]
              refine wpAnyS_take (i := 3) (v := ?_) rfl (by kernel_rfl) (by kernel_rfl) (by kernel_rfl) (fun _ _ _ h => h) (by rfl) (gives_pureF (by rfl) (by kernel_rfl) ?_) ?_
              rotate_left
              · intro d' u' W' hS'
                have hh : Blk W' gC 55 (sttC s) ∧ Below gC w3 W' := hS'
                have hbl : Below w.heap.size w W' := HW3.out.trans (hh.2.mono (by rw [HGC.out]; exact HW3.out.size))
                have x0 := HX.out W' hbl
                obtain ⟨s0, s1⟩ := hh.1.c2
                have hbw : ad.block < W'.heap.size := Nat.lt_of_lt_of_le HBA.out hbl.size
                go_simp
                rfl
              try simp only [Act.put, List.setIfInBounds_toArray, List.set_cons_zero, List.set_cons_succ, List.getElem_toArray, List.getElem_cons_zero, List.getElem_cons_succ]
              refine wpAnyS_take (i := 4) (v := ?_) rfl (by kernel_rfl) (by kernel_rfl) (by kernel_rfl) (fun _ _ _ h => h) (by rfl) (gives_pureF (by rfl) (by kernel_rfl) ?_) ?_
              rotate_left
              · intro d' u' W' hS'
                have hh : Blk W' gC 55 (sttC s) ∧ Below gC w3 W' := hS'
                have hbl : Below w.heap.size w W' := HW3.out.trans (hh.2.mono (by rw [HGC.out]; exact HW3.out.size))
                have x0 := HX.out W' hbl
                obtain ⟨s0, s1⟩ := hh.1.c2
                have hbw : ad.block < W'.heap.size := Nat.lt_of_lt_of_le HBA.out hbl.size
                go_simp
                rfl
              try simp only [Act.put, List.setIfInBounds_toArray, List.set_cons_zero, List.set_cons_succ, List.getElem_toArray, List.getElem_cons_zero, List.getElem_cons_succ]
              refine wpAnyS_take (i := 5) (v := ?_) rfl (by kernel_rfl) (by kernel_rfl) (by kernel_rfl) (fun _ _ _ h => h) (by rfl) (gives_pureF (by rfl) (by kernel_rfl) ?_) ?_
              rotate_left
              · intro d' u' W' hS'
                have hh : Blk W' gC 55 (sttC s) ∧ Below gC w3 W' := hS'
                have hbl : Below w.heap.size w W' := HW3.out.trans (hh.2.mono (by rw [HGC.out]; exact HW3.out.size))
                have x0 := HX.out W' hbl
                obtain ⟨s0, s1⟩ := hh.1.c2
                have hbw : ad.block < W'.heap.size := Nat.lt_of_lt_of_le HBA.out hbl.size
                go_simp
                rfl
              try simp only [Act.put, List.setIfInBounds_toArray, List.set_cons_zero, List.set_cons_succ, List.getElem_toArray, List.getElem_cons_zero, List.getElem_cons_succ]
              refine wpAnyS_take (i := 6) (v := ?_) rfl (by kernel_rfl) (by kernel_rfl) (by kernel_rfl) (fun _ _ _ h => h) (by rfl) (gives_pureF (by rfl) (by kernel_rfl) ?_) ?_
              rotate_left
              · intro d' u' W' hS'
                have hh : Blk W' gC 55 (sttC s) ∧ Below gC w3 W' := hS'
                have hbl : Below w.heap.size w W' := HW3.out.trans (hh.2.mono (by rw [HGC.out]; exact HW3.out.size))
                have x0 := HX.out W' hbl
                obtain ⟨s0, s1⟩ := hh.1.c2
                have hbw : ad.block < W'.heap.size := Nat.lt_of_lt_of_le HBA.out hbl.size
                go_simp
                rfl
              try simp only [Act.put, List.setIfInBounds_toArray, List.set_cons_zero, List.set_cons_succ, List.getElem_toArray, List.getElem_cons_zero, List.getElem_cons_succ]
              refine wpAnyS_take (i := 7) (v := .agg #[.int .i64 s2.most, .int .i64 s2.least]) rfl (by kernel_rfl) (by kernel_rfl) (by kernel_rfl) (fun _ _ _ h => h) (by rfl) (gives_callF (by rfl) (by kernel_rfl) _ _ ?_ (fun d' u' W' hS' => (HJN.out W').mono (fun _ _ h => ⟨h.1, FtS.bel HGC.out (show Blk W' gC 55 (sttC s) ∧ Below gC w3 W' from hS') h.2⟩))) ?_
              · intro W'
                first | rfl | kernel_rfl
              try simp only [Act.put, List.setIfInBounds_toArray, List.set_cons_zero, List.set_cons_succ, List.getElem_toArray, List.getElem_cons_zero, List.getElem_cons_succ]
              refine wpAnyS_store (i := 8) (d := true) (fun W' => (W'.setCell ⟨gC, 0, none⟩ (.int .i64 s2.most)).setCell ⟨gC, 1, none⟩ (.int .i64 s2.least)) rfl (by kernel_rfl) (by rfl) (by rfl) (by kernel_rfl) rfl ?_ (fun W' hS' => FtS.set (show Blk W' gC 55 (sttC s) ∧ Below gC w3 W' from hS') s2.most s2.least) ?_
              · intro W' hS'
                have hh : Blk W' gC 55 (sttC s) ∧ Below gC w3 W' := hS'
                obtain ⟨s0, s1⟩ := hh.1.c2
                have fs := hh.1.frozen
                go_simp
                try rfl
              try simp only [Act.put, List.setIfInBounds_toArray, List.set_cons_zero, List.set_cons_succ, List.getElem_toArray, List.getElem_cons_zero, List.getElem_cons_succ]
              refine wpAnyS_done (b := true) (d := true) (by kernel_rfl) (by kernel_rfl) (by kernel_rfl) rfl (fun w38 h38 => ?_) _
              have H38 : Hid (Blk w38 gC 55 (sttC s2) ∧ Below gC w3 w38) := Lib.hid h38
              clear h38
              go_wp2_with fail
              go_roundw
              case rel => exact ⟨i + 1, by omega, by omega, by go_num, Lib.hid (by rw [HTK.out]; exact H38.out)⟩
              case measure => simp [intOf]; omega
            · have d0 : decide ((i : Int) < (l.length : Int)) = false := decide_eq_false (by rw [← HJL.out]; omega)
              have HIJ : Hid (i = j) := Lib.hid (by omega)
              obtain ⟨si, HSI⟩ : ∃ si, Hid (si = jaF ⟨0, 0⟩ (R.drop 1)) := ⟨_, Lib.hid rfl⟩
              have HCs : Hid (Blk wr gC 55 (sttC si) ∧ Below gC w3 wr) := Lib.hid (by
                have := HCr.out
                rw [HIJ.out, ← HRL.out, List.take_length, ← HSI.out] at this
                exact this)
              have HJ0 := Lib.hid (jaF_B (R.drop 1) ⟨0, 0⟩ (fun x hx => (HNS.out.r x (List.mem_of_mem_drop hx)).1) (by decide))
              rw [← HSI.out] at HJ0
              have hb3 : Hid (Below w3.heap.size w3 wr) := Lib.hid (by rw [← HGC.out]; exact HCs.out.2)
              have HT4 := Lib.hid (HT3.out.below hb3.out HT3.out.lt)
              have HRN4 := Lib.hid (Reads.of_own (own_below HN3.out hb3.out))
              have HRU4 := Lib.hid (Reads.of_own (own_below HU3.out hb3.out))
              have HW4 := Lib.hid (HW3.out.trans (hb3.out.mono HW3.out.size))
              obtain ⟨fs, HGv, hy0, hy1, hblk⟩ := nblockb_any R H ((bd : Int) + 1) j HRL.out HNS.out HL2.out ⟨by omega, by omega⟩ _ (HAT.out 0 HL0.out)
              rw [← HSI.out] at hy1
              have q4 := Lib.hid (hblk _ _ cN cU wr HRN4.out HRU4.out)
              clear hblk
              have HIN := Lib.hid (HI.out _ (List.getElem_mem HL0.out))
              have HX := Lib.hid (HRR2.out 0 HL0.out)
              obtain ⟨a, ha⟩ : ∃ a, a = (l[0]'HL0.out).1 := ⟨_, rfl⟩
              rw [← ha] at HX
              have hab : -32768 ≤ a ∧ a ≤ 32767 := by rw [ha]; exact HIN.out.1
              have HY0 : Hid ((fs 0).y = a) := Lib.hid (by rw [hy0, ha]; rfl)
              have HY1 : Hid ((fs 1).y = (bd : Int) + 1 + (si.most + si.least)) := Lib.hid hy1
              have hw2 : IntKind.i64.wrap a = a := IntWalk.i64_in _ ⟨by omega, by omega⟩
              have hjb := HJ0.out
              have hwb : IntKind.i64.wrap (bd : Int) = (bd : Int) := IntWalk.i64_in _ ⟨by omega, by omega⟩
              have hwb2 : IntKind.i64.wrap ((bd : Int) + 1) = (bd : Int) + 1 := IntWalk.i64_in _ ⟨by omega, by omega⟩
              have hwb3 : IntKind.i64.wrap ((bd : Int) + 1 + (si.most + si.least)) = (bd : Int) + 1 + (si.most + si.least) := IntWalk.i64_in _ ⟨by omega, by omega⟩
              have HSM := Lib.hid (fun W => sum14_any si.most si.least W (by omega))
              have HWK := Lib.hid works22_any
              clear ha hab hy0 hy1 hjb
              obtain ⟨t0, t1, t2⟩ := HT4.out.c3
              go_upto_region 40 with (go_at_call 20; refine q4.out.mono ?_; rintro e w5 ⟨Ab2, cb2, gF2, gB2, rfl, hf, hb⟩; have HF5 := Lib.hid hf; have HC5 := Lib.hid (HCs.out.1.below hb HCs.out.1.lt); have HW5 := Lib.hid (HW4.out.trans (hb.mono HW4.out.size)); clear hf hb)
              clear q4 t0 t1 t2 HRN4 HRU4
              obtain ⟨gJ, HGJ⟩ : ∃ gJ, Hid (gJ = w5.heap.size) := ⟨_, Lib.hid rfl⟩
              obtain ⟨w6, hw6⟩ : ∃ w6, w6 = w5.alloc (.cells #[.slice Ab2 j cb2, .slice (some ⟨gF2, 0, none⟩) j j, .slice (some ⟨gB2, 0, none⟩) j j, .int .i64 HGv, .slice none 0 0, .bool false] 52) := ⟨_, rfl⟩
              have HBX : Hid (Below w5.heap.size w5 w6) := Lib.hid (by rw [hw6]; exact (Below.refl _ _).alloc (Nat.le_refl _) _)
              have HJB : Hid (Blk w6 gJ 52 #[.slice Ab2 j cb2, .slice (some ⟨gF2, 0, none⟩) j j, .slice (some ⟨gB2, 0, none⟩) j j, .int .i64 HGv, .slice none 0 0, .bool false]) := Lib.hid (by rw [hw6, HGJ.out]; exact Blk.new _ _ _)
              have HF6 := Lib.hid (HF5.out.below HBX.out HF5.out.lt)
              have HC6 := Lib.hid (HC5.out.below HBX.out HC5.out.lt)
              have HW6 := Lib.hid (HW5.out.trans (HBX.out.mono HW5.out.size))
              rw [← hw6, ← HGJ.out]
              clear hw6 HF5 HC5 HW5 HBX HGJ
              have HFY : Hid (∀ W', Below w6.heap.size w6 W' → W'.cell? ⟨gF2, 1, none⟩ = some (.int .i64 a) ∧ W'.cell? ⟨gF2, 6, none⟩ = some (.int .i64 ((bd : Int) + 1 + (si.most + si.least)))) := Lib.hid (fun W' hb => by
                have h0 := (frag_c (HF6.out.below hb HF6.out.lt) 0 (by have := HL2.out; omega)).2.1
                have h1 := (frag_c (HF6.out.below hb HF6.out.lt) 1 (by have := HL2.out; omega)).2.1
                rw [HY0.out] at h0
                rw [HY1.out] at h1
                exact ⟨h0, h1⟩)
              have HX0 : Hid (∀ W', Below w6.heap.size w6 W' → W'.cell? ad = some (.int .i16 a) ∧ ad.block < W'.heap.size) := Lib.hid (fun W' hb => by
                have hbw := HW6.out.trans (hb.mono HW6.out.size)
                have h := HX.out W' hbw
                rw [Nat.zero_mul] at h
                exact ⟨h, Nat.lt_of_lt_of_le HBA.out hbw.size⟩)
              have hz1 : (1 : Int) < (j : Int) := by have := HL2.out; omega
              have hz2 : 1 < j := by have := HL2.out; omega
              have hz3 : (0 : Int) < (j : Int) := by omega
              have hz4 : 0 < j := by omega
              have hz5 : (0 : Int) < (l.length : Int) := by have := HL0.out; omega
              have hz6 : 0 < l.length := HL0.out
              refine wp_region_S (fun _ _ _ W => Below w6.heap.size w6 W) 1000 1000 100000 true true (by kernel_rfl) (by kernel_rfl) (by kernel_rfl) ((Below.refl _ _).drew) ?_
              refine wpAnyS_take (i := 0) (v := ?_) rfl (by kernel_rfl) (by kernel_rfl) (by kernel_rfl) (fun _ _ _ h => h) (by rfl) (gives_pure (by rfl) ?_) ?_
              rotate_left
              · intro b' d' u' W' hS'
                obtain ⟨f1, f6⟩ := HFY.out W' hS'
                obtain ⟨x0, hbw⟩ := HX0.out W' hS'
                have j1 := (HJB.out.below hS' HJB.out.lt).get 1 (v := .slice (some ⟨gF2, 0, none⟩) j j) rfl
                obtain ⟨s0, s1⟩ := (HC6.out.below hS' HC6.out.lt).c2
                have e1 : ((j : Int) == (l.length : Int)) = true := by rw [HJL.out]; simp
                have e2 : (a == a) = true := by simp
                have e3 : ((bd : Int) + 1 + (si.most + si.least) == (bd : Int) + 1 + (si.most + si.least)) = true := by simp
                go_simp
                rfl
              try simp only [Act.put, List.setIfInBounds_toArray, List.set_cons_zero, List.set_cons_succ, List.getElem_toArray, List.getElem_cons_zero, List.getElem_cons_succ]
              refine wpAnyS_take (i := 1) (v := ?_) rfl (by kernel_rfl) (by kernel_rfl) (by kernel_rfl) (fun _ _ _ h => h) (by rfl) (gives_pure (by rfl) ?_) ?_
              rotate_left
              · intro b' d' u' W' hS'
                obtain ⟨f1, f6⟩ := HFY.out W' hS'
                obtain ⟨x0, hbw⟩ := HX0.out W' hS'
                have j1 := (HJB.out.below hS' HJB.out.lt).get 1 (v := .slice (some ⟨gF2, 0, none⟩) j j) rfl
                obtain ⟨s0, s1⟩ := (HC6.out.below hS' HC6.out.lt).c2
                have e1 : ((j : Int) == (l.length : Int)) = true := by rw [HJL.out]; simp
                have e2 : (a == a) = true := by simp
                have e3 : ((bd : Int) + 1 + (si.most + si.least) == (bd : Int) + 1 + (si.most + si.least)) = true := by simp
                go_simp
                rfl
              try simp only [Act.put, List.setIfInBounds_toArray, List.set_cons_zero, List.set_cons_succ, List.getElem_toArray, List.getElem_cons_zero, List.getElem_cons_succ]
              refine wpAnyS_take (i := 2) (v := ?_) rfl (by kernel_rfl) (by kernel_rfl) (by kernel_rfl) (fun _ _ _ h => h) (by rfl) (gives_pure (by rfl) ?_) ?_
              rotate_left
              · intro b' d' u' W' hS'
                obtain ⟨f1, f6⟩ := HFY.out W' hS'
                obtain ⟨x0, hbw⟩ := HX0.out W' hS'
                have j1 := (HJB.out.below hS' HJB.out.lt).get 1 (v := .slice (some ⟨gF2, 0, none⟩) j j) rfl
                obtain ⟨s0, s1⟩ := (HC6.out.below hS' HC6.out.lt).c2
                have e1 : ((j : Int) == (l.length : Int)) = true := by rw [HJL.out]; simp
                have e2 : (a == a) = true := by simp
                have e3 : ((bd : Int) + 1 + (si.most + si.least) == (bd : Int) + 1 + (si.most + si.least)) = true := by simp
                go_simp
                rfl
              try simp only [Act.put, List.setIfInBounds_toArray, List.set_cons_zero, List.set_cons_succ, List.getElem_toArray, List.getElem_cons_zero, List.getElem_cons_succ]
              refine wpAnyS_take (i := 3) (v := ?_) rfl (by kernel_rfl) (by kernel_rfl) (by kernel_rfl) (fun _ _ _ h => h) (by rfl) (gives_pure (by rfl) ?_) ?_
              rotate_left
              · intro b' d' u' W' hS'
                obtain ⟨f1, f6⟩ := HFY.out W' hS'
                obtain ⟨x0, hbw⟩ := HX0.out W' hS'
                have j1 := (HJB.out.below hS' HJB.out.lt).get 1 (v := .slice (some ⟨gF2, 0, none⟩) j j) rfl
                obtain ⟨s0, s1⟩ := (HC6.out.below hS' HC6.out.lt).c2
                have e1 : ((j : Int) == (l.length : Int)) = true := by rw [HJL.out]; simp
                have e2 : (a == a) = true := by simp
                have e3 : ((bd : Int) + 1 + (si.most + si.least) == (bd : Int) + 1 + (si.most + si.least)) = true := by simp
                go_simp
                rfl
              try simp only [Act.put, List.setIfInBounds_toArray, List.set_cons_zero, List.set_cons_succ, List.getElem_toArray, List.getElem_cons_zero, List.getElem_cons_succ]
              refine wpAnyS_take (i := 4) (v := ?_) rfl (by kernel_rfl) (by kernel_rfl) (by kernel_rfl) (fun _ _ _ h => h) (by rfl) (gives_pure (by rfl) ?_) ?_
              rotate_left
              · intro b' d' u' W' hS'
                obtain ⟨f1, f6⟩ := HFY.out W' hS'
                obtain ⟨x0, hbw⟩ := HX0.out W' hS'
                have j1 := (HJB.out.below hS' HJB.out.lt).get 1 (v := .slice (some ⟨gF2, 0, none⟩) j j) rfl
                obtain ⟨s0, s1⟩ := (HC6.out.below hS' HC6.out.lt).c2
                have e1 : ((j : Int) == (l.length : Int)) = true := by rw [HJL.out]; simp
                have e2 : (a == a) = true := by simp
                have e3 : ((bd : Int) + 1 + (si.most + si.least) == (bd : Int) + 1 + (si.most + si.least)) = true := by simp
                go_simp
                rfl
              try simp only [Act.put, List.setIfInBounds_toArray, List.set_cons_zero, List.set_cons_succ, List.getElem_toArray, List.getElem_cons_zero, List.getElem_cons_succ]
              refine wpAnyS_take (i := 5) (v := ?_) rfl (by kernel_rfl) (by kernel_rfl) (by kernel_rfl) (fun _ _ _ h => h) (by rfl) (gives_pure (by rfl) ?_) ?_
              rotate_left
              · intro b' d' u' W' hS'
                obtain ⟨f1, f6⟩ := HFY.out W' hS'
                obtain ⟨x0, hbw⟩ := HX0.out W' hS'
                have j1 := (HJB.out.below hS' HJB.out.lt).get 1 (v := .slice (some ⟨gF2, 0, none⟩) j j) rfl
                obtain ⟨s0, s1⟩ := (HC6.out.below hS' HC6.out.lt).c2
                have e1 : ((j : Int) == (l.length : Int)) = true := by rw [HJL.out]; simp
                have e2 : (a == a) = true := by simp
                have e3 : ((bd : Int) + 1 + (si.most + si.least) == (bd : Int) + 1 + (si.most + si.least)) = true := by simp
                go_simp
                rfl
              try simp only [Act.put, List.setIfInBounds_toArray, List.set_cons_zero, List.set_cons_succ, List.getElem_toArray, List.getElem_cons_zero, List.getElem_cons_succ]
              refine wpAnyS_take (i := 6) (v := ?_) rfl (by kernel_rfl) (by kernel_rfl) (by kernel_rfl) (fun _ _ _ h => h) (by rfl) (gives_pure (by rfl) ?_) ?_
              rotate_left
              · intro b' d' u' W' hS'
                obtain ⟨f1, f6⟩ := HFY.out W' hS'
                obtain ⟨x0, hbw⟩ := HX0.out W' hS'
                have j1 := (HJB.out.below hS' HJB.out.lt).get 1 (v := .slice (some ⟨gF2, 0, none⟩) j j) rfl
                obtain ⟨s0, s1⟩ := (HC6.out.below hS' HC6.out.lt).c2
                have e1 : ((j : Int) == (l.length : Int)) = true := by rw [HJL.out]; simp
                have e2 : (a == a) = true := by simp
                have e3 : ((bd : Int) + 1 + (si.most + si.least) == (bd : Int) + 1 + (si.most + si.least)) = true := by simp
                go_simp
                rfl
              try simp only [Act.put, List.setIfInBounds_toArray, List.set_cons_zero, List.set_cons_succ, List.getElem_toArray, List.getElem_cons_zero, List.getElem_cons_succ]
              refine wpAnyS_take (i := 7) (v := ?_) rfl (by kernel_rfl) (by kernel_rfl) (by kernel_rfl) (fun _ _ _ h => h) (by rfl) (gives_pure (by rfl) ?_) ?_
              rotate_left
              · intro b' d' u' W' hS'
                obtain ⟨f1, f6⟩ := HFY.out W' hS'
                obtain ⟨x0, hbw⟩ := HX0.out W' hS'
                have j1 := (HJB.out.below hS' HJB.out.lt).get 1 (v := .slice (some ⟨gF2, 0, none⟩) j j) rfl
                obtain ⟨s0, s1⟩ := (HC6.out.below hS' HC6.out.lt).c2
                have e1 : ((j : Int) == (l.length : Int)) = true := by rw [HJL.out]; simp
                have e2 : (a == a) = true := by simp
                have e3 : ((bd : Int) + 1 + (si.most + si.least) == (bd : Int) + 1 + (si.most + si.least)) = true := by simp
                go_simp
                rfl
              try simp only [Act.put, List.setIfInBounds_toArray, List.set_cons_zero, List.set_cons_succ, List.getElem_toArray, List.getElem_cons_zero, List.getElem_cons_succ]
              refine wpAnyS_take (i := 8) (v := ?_) rfl (by kernel_rfl) (by kernel_rfl) (by kernel_rfl) (fun _ _ _ h => h) (by rfl) (gives_pure (by rfl) ?_) ?_
              rotate_left
              · intro b' d' u' W' hS'
                obtain ⟨f1, f6⟩ := HFY.out W' hS'
                obtain ⟨x0, hbw⟩ := HX0.out W' hS'
                have j1 := (HJB.out.below hS' HJB.out.lt).get 1 (v := .slice (some ⟨gF2, 0, none⟩) j j) rfl
                obtain ⟨s0, s1⟩ := (HC6.out.below hS' HC6.out.lt).c2
                have e1 : ((j : Int) == (l.length : Int)) = true := by rw [HJL.out]; simp
                have e2 : (a == a) = true := by simp
                have e3 : ((bd : Int) + 1 + (si.most + si.least) == (bd : Int) + 1 + (si.most + si.least)) = true := by simp
                go_simp
                rfl
              try simp only [Act.put, List.setIfInBounds_toArray, List.set_cons_zero, List.set_cons_succ, List.getElem_toArray, List.getElem_cons_zero, List.getElem_cons_succ]
              refine wpAnyS_take (i := 9) (v := ?_) rfl (by kernel_rfl) (by kernel_rfl) (by kernel_rfl) (fun _ _ _ h => h) (by rfl) (gives_pure (by rfl) ?_) ?_
              rotate_left
              · intro b' d' u' W' hS'
                obtain ⟨f1, f6⟩ := HFY.out W' hS'
                obtain ⟨x0, hbw⟩ := HX0.out W' hS'
                have j1 := (HJB.out.below hS' HJB.out.lt).get 1 (v := .slice (some ⟨gF2, 0, none⟩) j j) rfl
                obtain ⟨s0, s1⟩ := (HC6.out.below hS' HC6.out.lt).c2
                have e1 : ((j : Int) == (l.length : Int)) = true := by rw [HJL.out]; simp
                have e2 : (a == a) = true := by simp
                have e3 : ((bd : Int) + 1 + (si.most + si.least) == (bd : Int) + 1 + (si.most + si.least)) = true := by simp
                go_simp
                rfl
              try simp only [Act.put, List.setIfInBounds_toArray, List.set_cons_zero, List.set_cons_succ, List.getElem_toArray, List.getElem_cons_zero, List.getElem_cons_succ]
              refine wpAnyS_take (i := 10) (v := ?_) rfl (by kernel_rfl) (by kernel_rfl) (by kernel_rfl) (fun _ _ _ h => h) (by rfl) (gives_pure (by rfl) ?_) ?_
              rotate_left
              · intro b' d' u' W' hS'
                obtain ⟨f1, f6⟩ := HFY.out W' hS'
                obtain ⟨x0, hbw⟩ := HX0.out W' hS'
                have j1 := (HJB.out.below hS' HJB.out.lt).get 1 (v := .slice (some ⟨gF2, 0, none⟩) j j) rfl
                obtain ⟨s0, s1⟩ := (HC6.out.below hS' HC6.out.lt).c2
                have e1 : ((j : Int) == (l.length : Int)) = true := by rw [HJL.out]; simp
                have e2 : (a == a) = true := by simp
                have e3 : ((bd : Int) + 1 + (si.most + si.least) == (bd : Int) + 1 + (si.most + si.least)) = true := by simp
                go_simp
                rfl
              try simp only [Act.put, List.setIfInBounds_toArray, List.set_cons_zero, List.set_cons_succ, List.getElem_toArray, List.getElem_cons_zero, List.getElem_cons_succ]
              refine wpAnyS_take (i := 11) (v := ?_) rfl (by kernel_rfl) (by kernel_rfl) (by kernel_rfl) (fun _ _ _ h => h) (by rfl) (gives_pure (by rfl) ?_) ?_
              rotate_left
              · intro b' d' u' W' hS'
                obtain ⟨f1, f6⟩ := HFY.out W' hS'
                obtain ⟨x0, hbw⟩ := HX0.out W' hS'
                have j1 := (HJB.out.below hS' HJB.out.lt).get 1 (v := .slice (some ⟨gF2, 0, none⟩) j j) rfl
                obtain ⟨s0, s1⟩ := (HC6.out.below hS' HC6.out.lt).c2
                have e1 : ((j : Int) == (l.length : Int)) = true := by rw [HJL.out]; simp
                have e2 : (a == a) = true := by simp
                have e3 : ((bd : Int) + 1 + (si.most + si.least) == (bd : Int) + 1 + (si.most + si.least)) = true := by simp
                go_simp
                rfl
              try simp only [Act.put, List.setIfInBounds_toArray, List.set_cons_zero, List.set_cons_succ, List.getElem_toArray, List.getElem_cons_zero, List.getElem_cons_succ]
              refine wpAnyS_take (i := 12) (v := ?_) rfl (by kernel_rfl) (by kernel_rfl) (by kernel_rfl) (fun _ _ _ h => h) (by rfl) (gives_pure (by rfl) ?_) ?_
              rotate_left
              · intro b' d' u' W' hS'
                obtain ⟨f1, f6⟩ := HFY.out W' hS'
                obtain ⟨x0, hbw⟩ := HX0.out W' hS'
                have j1 := (HJB.out.below hS' HJB.out.lt).get 1 (v := .slice (some ⟨gF2, 0, none⟩) j j) rfl
                obtain ⟨s0, s1⟩ := (HC6.out.below hS' HC6.out.lt).c2
                have e1 : ((j : Int) == (l.length : Int)) = true := by rw [HJL.out]; simp
                have e2 : (a == a) = true := by simp
                have e3 : ((bd : Int) + 1 + (si.most + si.least) == (bd : Int) + 1 + (si.most + si.least)) = true := by simp
                go_simp
                rfl
              try simp only [Act.put, List.setIfInBounds_toArray, List.set_cons_zero, List.set_cons_succ, List.getElem_toArray, List.getElem_cons_zero, List.getElem_cons_succ]
              refine wpAnyS_take (i := 13) (v := ?_) rfl (by kernel_rfl) (by kernel_rfl) (by kernel_rfl) (fun _ _ _ h => h) (by rfl) (gives_pure (by rfl) ?_) ?_
              rotate_left
              · intro b' d' u' W' hS'
                obtain ⟨f1, f6⟩ := HFY.out W' hS'
                obtain ⟨x0, hbw⟩ := HX0.out W' hS'
                have j1 := (HJB.out.below hS' HJB.out.lt).get 1 (v := .slice (some ⟨gF2, 0, none⟩) j j) rfl
                obtain ⟨s0, s1⟩ := (HC6.out.below hS' HC6.out.lt).c2
                have e1 : ((j : Int) == (l.length : Int)) = true := by rw [HJL.out]; simp
                have e2 : (a == a) = true := by simp
                have e3 : ((bd : Int) + 1 + (si.most + si.least) == (bd : Int) + 1 + (si.most + si.least)) = true := by simp
                go_simp
                rfl
              try simp only [Act.put, List.setIfInBounds_toArray, List.set_cons_zero, List.set_cons_succ, List.getElem_toArray, List.getElem_cons_zero, List.getElem_cons_succ]
              refine wpAnyS_take (i := 14) (v := ?_) rfl (by kernel_rfl) (by kernel_rfl) (by kernel_rfl) (fun _ _ _ h => h) (by rfl) (gives_pure (by rfl) ?_) ?_
              rotate_left
              · intro b' d' u' W' hS'
                obtain ⟨f1, f6⟩ := HFY.out W' hS'
                obtain ⟨x0, hbw⟩ := HX0.out W' hS'
                have j1 := (HJB.out.below hS' HJB.out.lt).get 1 (v := .slice (some ⟨gF2, 0, none⟩) j j) rfl
                obtain ⟨s0, s1⟩ := (HC6.out.below hS' HC6.out.lt).c2
                have e1 : ((j : Int) == (l.length : Int)) = true := by rw [HJL.out]; simp
                have e2 : (a == a) = true := by simp
                have e3 : ((bd : Int) + 1 + (si.most + si.least) == (bd : Int) + 1 + (si.most + si.least)) = true := by simp
                go_simp
                rfl
              try simp only [Act.put, List.setIfInBounds_toArray, List.set_cons_zero, List.set_cons_succ, List.getElem_toArray, List.getElem_cons_zero, List.getElem_cons_succ]
              refine wpAnyS_take (i := 15) (v := ?_) rfl (by kernel_rfl) (by kernel_rfl) (by kernel_rfl) (fun _ _ _ h => h) (by rfl) (gives_pure (by rfl) ?_) ?_
              rotate_left
              · intro b' d' u' W' hS'
                obtain ⟨f1, f6⟩ := HFY.out W' hS'
                obtain ⟨x0, hbw⟩ := HX0.out W' hS'
                have j1 := (HJB.out.below hS' HJB.out.lt).get 1 (v := .slice (some ⟨gF2, 0, none⟩) j j) rfl
                obtain ⟨s0, s1⟩ := (HC6.out.below hS' HC6.out.lt).c2
                have e1 : ((j : Int) == (l.length : Int)) = true := by rw [HJL.out]; simp
                have e2 : (a == a) = true := by simp
                have e3 : ((bd : Int) + 1 + (si.most + si.least) == (bd : Int) + 1 + (si.most + si.least)) = true := by simp
                go_simp
                rfl
              try simp only [Act.put, List.setIfInBounds_toArray, List.set_cons_zero, List.set_cons_succ, List.getElem_toArray, List.getElem_cons_zero, List.getElem_cons_succ]
              refine wpAnyS_take (i := 16) (v := ?_) rfl (by kernel_rfl) (by kernel_rfl) (by kernel_rfl) (fun _ _ _ h => h) (by rfl) (gives_pure (by rfl) ?_) ?_
              rotate_left
              · intro b' d' u' W' hS'
                obtain ⟨f1, f6⟩ := HFY.out W' hS'
                obtain ⟨x0, hbw⟩ := HX0.out W' hS'
                have j1 := (HJB.out.below hS' HJB.out.lt).get 1 (v := .slice (some ⟨gF2, 0, none⟩) j j) rfl
                obtain ⟨s0, s1⟩ := (HC6.out.below hS' HC6.out.lt).c2
                have e1 : ((j : Int) == (l.length : Int)) = true := by rw [HJL.out]; simp
                have e2 : (a == a) = true := by simp
                have e3 : ((bd : Int) + 1 + (si.most + si.least) == (bd : Int) + 1 + (si.most + si.least)) = true := by simp
                go_simp
                rfl
              try simp only [Act.put, List.setIfInBounds_toArray, List.set_cons_zero, List.set_cons_succ, List.getElem_toArray, List.getElem_cons_zero, List.getElem_cons_succ]
              refine wpAnyS_take (i := 17) (v := ?_) rfl (by kernel_rfl) (by kernel_rfl) (by kernel_rfl) (fun _ _ _ h => h) (by rfl) (gives_pure (by rfl) ?_) ?_
              rotate_left
              · intro b' d' u' W' hS'
                obtain ⟨f1, f6⟩ := HFY.out W' hS'
                obtain ⟨x0, hbw⟩ := HX0.out W' hS'
                have j1 := (HJB.out.below hS' HJB.out.lt).get 1 (v := .slice (some ⟨gF2, 0, none⟩) j j) rfl
                obtain ⟨s0, s1⟩ := (HC6.out.below hS' HC6.out.lt).c2
                have e1 : ((j : Int) == (l.length : Int)) = true := by rw [HJL.out]; simp
                have e2 : (a == a) = true := by simp
                have e3 : ((bd : Int) + 1 + (si.most + si.least) == (bd : Int) + 1 + (si.most + si.least)) = true := by simp
                go_simp
                rfl
              try simp only [Act.put, List.setIfInBounds_toArray, List.set_cons_zero, List.set_cons_succ, List.getElem_toArray, List.getElem_cons_zero, List.getElem_cons_succ]
              refine wpAnyS_take (i := 18) (v := ?_) rfl (by kernel_rfl) (by kernel_rfl) (by kernel_rfl) (fun _ _ _ h => h) (by rfl) (gives_pure (by rfl) ?_) ?_
              rotate_left
              · intro b' d' u' W' hS'
                obtain ⟨f1, f6⟩ := HFY.out W' hS'
                obtain ⟨x0, hbw⟩ := HX0.out W' hS'
                have j1 := (HJB.out.below hS' HJB.out.lt).get 1 (v := .slice (some ⟨gF2, 0, none⟩) j j) rfl
                obtain ⟨s0, s1⟩ := (HC6.out.below hS' HC6.out.lt).c2
                have e1 : ((j : Int) == (l.length : Int)) = true := by rw [HJL.out]; simp
                have e2 : (a == a) = true := by simp
                have e3 : ((bd : Int) + 1 + (si.most + si.least) == (bd : Int) + 1 + (si.most + si.least)) = true := by simp
                go_simp
                rfl
              try simp only [Act.put, List.setIfInBounds_toArray, List.set_cons_zero, List.set_cons_succ, List.getElem_toArray, List.getElem_cons_zero, List.getElem_cons_succ]
              refine wpAnyS_take (i := 19) (v := ?_) rfl (by kernel_rfl) (by kernel_rfl) (by kernel_rfl) (fun _ _ _ h => h) (by rfl) (gives_pure (by rfl) ?_) ?_
              rotate_left
              · intro b' d' u' W' hS'
                obtain ⟨f1, f6⟩ := HFY.out W' hS'
                obtain ⟨x0, hbw⟩ := HX0.out W' hS'
                have j1 := (HJB.out.below hS' HJB.out.lt).get 1 (v := .slice (some ⟨gF2, 0, none⟩) j j) rfl
                obtain ⟨s0, s1⟩ := (HC6.out.below hS' HC6.out.lt).c2
                have e1 : ((j : Int) == (l.length : Int)) = true := by rw [HJL.out]; simp
                have e2 : (a == a) = true := by simp
                have e3 : ((bd : Int) + 1 + (si.most + si.least) == (bd : Int) + 1 + (si.most + si.least)) = true := by simp
                go_simp
                rfl
              try simp only [Act.put, List.setIfInBounds_toArray, List.set_cons_zero, List.set_cons_succ, List.getElem_toArray, List.getElem_cons_zero, List.getElem_cons_succ]
              refine wpAnyS_take (i := 20) (v := ?_) rfl (by kernel_rfl) (by kernel_rfl) (by kernel_rfl) (fun _ _ _ h => h) (by rfl) (gives_pure (by rfl) ?_) ?_
              rotate_left
              · intro b' d' u' W' hS'
                obtain ⟨f1, f6⟩ := HFY.out W' hS'
                obtain ⟨x0, hbw⟩ := HX0.out W' hS'
                have j1 := (HJB.out.below hS' HJB.out.lt).get 1 (v := .slice (some ⟨gF2, 0, none⟩) j j) rfl
                obtain ⟨s0, s1⟩ := (HC6.out.below hS' HC6.out.lt).c2
                have e1 : ((j : Int) == (l.length : Int)) = true := by rw [HJL.out]; simp
                have e2 : (a == a) = true := by simp
                have e3 : ((bd : Int) + 1 + (si.most + si.least) == (bd : Int) + 1 + (si.most + si.least)) = true := by simp
                go_simp
                rfl
              try simp only [Act.put, List.setIfInBounds_toArray, List.set_cons_zero, List.set_cons_succ, List.getElem_toArray, List.getElem_cons_zero, List.getElem_cons_succ]
              refine wpAnyS_take (i := 21) (v := ?_) rfl (by kernel_rfl) (by kernel_rfl) (by kernel_rfl) (fun _ _ _ h => h) (by rfl) (gives_pure (by rfl) ?_) ?_
              rotate_left
              · intro b' d' u' W' hS'
                obtain ⟨f1, f6⟩ := HFY.out W' hS'
                obtain ⟨x0, hbw⟩ := HX0.out W' hS'
                have j1 := (HJB.out.below hS' HJB.out.lt).get 1 (v := .slice (some ⟨gF2, 0, none⟩) j j) rfl
                obtain ⟨s0, s1⟩ := (HC6.out.below hS' HC6.out.lt).c2
                have e1 : ((j : Int) == (l.length : Int)) = true := by rw [HJL.out]; simp
                have e2 : (a == a) = true := by simp
                have e3 : ((bd : Int) + 1 + (si.most + si.least) == (bd : Int) + 1 + (si.most + si.least)) = true := by simp
                go_simp
                rfl
              try simp only [Act.put, List.setIfInBounds_toArray, List.set_cons_zero, List.set_cons_succ, List.getElem_toArray, List.getElem_cons_zero, List.getElem_cons_succ]
              refine wpAnyS_take (i := 22) (v := ?_) rfl (by kernel_rfl) (by kernel_rfl) (by kernel_rfl) (fun _ _ _ h => h) (by rfl) (gives_pure (by rfl) ?_) ?_
              rotate_left
              · intro b' d' u' W' hS'
                obtain ⟨f1, f6⟩ := HFY.out W' hS'
                obtain ⟨x0, hbw⟩ := HX0.out W' hS'
                have j1 := (HJB.out.below hS' HJB.out.lt).get 1 (v := .slice (some ⟨gF2, 0, none⟩) j j) rfl
                obtain ⟨s0, s1⟩ := (HC6.out.below hS' HC6.out.lt).c2
                have e1 : ((j : Int) == (l.length : Int)) = true := by rw [HJL.out]; simp
                have e2 : (a == a) = true := by simp
                have e3 : ((bd : Int) + 1 + (si.most + si.least) == (bd : Int) + 1 + (si.most + si.least)) = true := by simp
                go_simp
                rfl
              try simp only [Act.put, List.setIfInBounds_toArray, List.set_cons_zero, List.set_cons_succ, List.getElem_toArray, List.getElem_cons_zero, List.getElem_cons_succ]
              refine wpAnyS_take (i := 23) (v := ?_) rfl (by kernel_rfl) (by kernel_rfl) (by kernel_rfl) (fun _ _ _ h => h) (by rfl) (gives_pure (by rfl) ?_) ?_
              rotate_left
              · intro b' d' u' W' hS'
                obtain ⟨f1, f6⟩ := HFY.out W' hS'
                obtain ⟨x0, hbw⟩ := HX0.out W' hS'
                have j1 := (HJB.out.below hS' HJB.out.lt).get 1 (v := .slice (some ⟨gF2, 0, none⟩) j j) rfl
                obtain ⟨s0, s1⟩ := (HC6.out.below hS' HC6.out.lt).c2
                have e1 : ((j : Int) == (l.length : Int)) = true := by rw [HJL.out]; simp
                have e2 : (a == a) = true := by simp
                have e3 : ((bd : Int) + 1 + (si.most + si.least) == (bd : Int) + 1 + (si.most + si.least)) = true := by simp
                go_simp
                rfl
              try simp only [Act.put, List.setIfInBounds_toArray, List.set_cons_zero, List.set_cons_succ, List.getElem_toArray, List.getElem_cons_zero, List.getElem_cons_succ]
              refine wpAnyS_take (i := 24) (v := ?_) rfl (by kernel_rfl) (by kernel_rfl) (by kernel_rfl) (fun _ _ _ h => h) (by rfl) (gives_pure (by rfl) ?_) ?_
              rotate_left
              · intro b' d' u' W' hS'
                obtain ⟨f1, f6⟩ := HFY.out W' hS'
                obtain ⟨x0, hbw⟩ := HX0.out W' hS'
                have j1 := (HJB.out.below hS' HJB.out.lt).get 1 (v := .slice (some ⟨gF2, 0, none⟩) j j) rfl
                obtain ⟨s0, s1⟩ := (HC6.out.below hS' HC6.out.lt).c2
                have e1 : ((j : Int) == (l.length : Int)) = true := by rw [HJL.out]; simp
                have e2 : (a == a) = true := by simp
                have e3 : ((bd : Int) + 1 + (si.most + si.least) == (bd : Int) + 1 + (si.most + si.least)) = true := by simp
                go_simp
                rfl
              try simp only [Act.put, List.setIfInBounds_toArray, List.set_cons_zero, List.set_cons_succ, List.getElem_toArray, List.getElem_cons_zero, List.getElem_cons_succ]
              refine wpAnyS_take (i := 25) (v := ?_) rfl (by kernel_rfl) (by kernel_rfl) (by kernel_rfl) (fun _ _ _ h => h) (by rfl) (gives_pure (by rfl) ?_) ?_
              rotate_left
              · intro b' d' u' W' hS'
                obtain ⟨f1, f6⟩ := HFY.out W' hS'
                obtain ⟨x0, hbw⟩ := HX0.out W' hS'
                have j1 := (HJB.out.below hS' HJB.out.lt).get 1 (v := .slice (some ⟨gF2, 0, none⟩) j j) rfl
                obtain ⟨s0, s1⟩ := (HC6.out.below hS' HC6.out.lt).c2
                have e1 : ((j : Int) == (l.length : Int)) = true := by rw [HJL.out]; simp
                have e2 : (a == a) = true := by simp
                have e3 : ((bd : Int) + 1 + (si.most + si.least) == (bd : Int) + 1 + (si.most + si.least)) = true := by simp
                go_simp
                rfl
              try simp only [Act.put, List.setIfInBounds_toArray, List.set_cons_zero, List.set_cons_succ, List.getElem_toArray, List.getElem_cons_zero, List.getElem_cons_succ]
              refine wpAnyS_take (i := 26) (v := ?_) rfl (by kernel_rfl) (by kernel_rfl) (by kernel_rfl) (fun _ _ _ h => h) (by rfl) (gives_pure (by rfl) ?_) ?_
              rotate_left
              · intro b' d' u' W' hS'
                obtain ⟨f1, f6⟩ := HFY.out W' hS'
                obtain ⟨x0, hbw⟩ := HX0.out W' hS'
                have j1 := (HJB.out.below hS' HJB.out.lt).get 1 (v := .slice (some ⟨gF2, 0, none⟩) j j) rfl
                obtain ⟨s0, s1⟩ := (HC6.out.below hS' HC6.out.lt).c2
                have e1 : ((j : Int) == (l.length : Int)) = true := by rw [HJL.out]; simp
                have e2 : (a == a) = true := by simp
                have e3 : ((bd : Int) + 1 + (si.most + si.least) == (bd : Int) + 1 + (si.most + si.least)) = true := by simp
                go_simp
                rfl
              try simp only [Act.put, List.setIfInBounds_toArray, List.set_cons_zero, List.set_cons_succ, List.getElem_toArray, List.getElem_cons_zero, List.getElem_cons_succ]
              refine wpAnyS_take (i := 27) (v := ?_) rfl (by kernel_rfl) (by kernel_rfl) (by kernel_rfl) (fun _ _ _ h => h) (by rfl) (gives_pure (by rfl) ?_) ?_
              rotate_left
              · intro b' d' u' W' hS'
                obtain ⟨f1, f6⟩ := HFY.out W' hS'
                obtain ⟨x0, hbw⟩ := HX0.out W' hS'
                have j1 := (HJB.out.below hS' HJB.out.lt).get 1 (v := .slice (some ⟨gF2, 0, none⟩) j j) rfl
                obtain ⟨s0, s1⟩ := (HC6.out.below hS' HC6.out.lt).c2
                have e1 : ((j : Int) == (l.length : Int)) = true := by rw [HJL.out]; simp
                have e2 : (a == a) = true := by simp
                have e3 : ((bd : Int) + 1 + (si.most + si.least) == (bd : Int) + 1 + (si.most + si.least)) = true := by simp
                go_simp
                rfl
              try simp only [Act.put, List.setIfInBounds_toArray, List.set_cons_zero, List.set_cons_succ, List.getElem_toArray, List.getElem_cons_zero, List.getElem_cons_succ]
              refine wpAnyS_take (i := 28) (v := ?_) rfl (by kernel_rfl) (by kernel_rfl) (by kernel_rfl) (fun _ _ _ h => h) (by rfl) (gives_pure (by rfl) ?_) ?_
              rotate_left
              · intro b' d' u' W' hS'
                obtain ⟨f1, f6⟩ := HFY.out W' hS'
                obtain ⟨x0, hbw⟩ := HX0.out W' hS'
                have j1 := (HJB.out.below hS' HJB.out.lt).get 1 (v := .slice (some ⟨gF2, 0, none⟩) j j) rfl
                obtain ⟨s0, s1⟩ := (HC6.out.below hS' HC6.out.lt).c2
                have e1 : ((j : Int) == (l.length : Int)) = true := by rw [HJL.out]; simp
                have e2 : (a == a) = true := by simp
                have e3 : ((bd : Int) + 1 + (si.most + si.least) == (bd : Int) + 1 + (si.most + si.least)) = true := by simp
                go_simp
                rfl
              try simp only [Act.put, List.setIfInBounds_toArray, List.set_cons_zero, List.set_cons_succ, List.getElem_toArray, List.getElem_cons_zero, List.getElem_cons_succ]
              refine wpAnyS_take (i := 29) (v := .int .i64 (si.most + si.least)) rfl (by kernel_rfl) (by kernel_rfl) (by kernel_rfl) (fun _ _ _ h => h) (by rfl) (gives_call (by rfl) _ _ ?_ (fun b' d' u' W' hS' => (HSM.out W').mono (fun _ _ h => ⟨h.1, h.2 ▸ hS'.alloc hS'.size _⟩))) ?_
              · intro W'
                first | rfl | kernel_rfl
              try simp only [Act.put, List.setIfInBounds_toArray, List.set_cons_zero, List.set_cons_succ, List.getElem_toArray, List.getElem_cons_zero, List.getElem_cons_succ]
              refine wpAnyS_take (i := 30) (v := ?_) rfl (by kernel_rfl) (by kernel_rfl) (by kernel_rfl) (fun _ _ _ h => h) (by rfl) (gives_pure (by rfl) ?_) ?_
              rotate_left
              · intro b' d' u' W' hS'
                obtain ⟨f1, f6⟩ := HFY.out W' hS'
                obtain ⟨x0, hbw⟩ := HX0.out W' hS'
                have j1 := (HJB.out.below hS' HJB.out.lt).get 1 (v := .slice (some ⟨gF2, 0, none⟩) j j) rfl
                obtain ⟨s0, s1⟩ := (HC6.out.below hS' HC6.out.lt).c2
                have e1 : ((j : Int) == (l.length : Int)) = true := by rw [HJL.out]; simp
                have e2 : (a == a) = true := by simp
                have e3 : ((bd : Int) + 1 + (si.most + si.least) == (bd : Int) + 1 + (si.most + si.least)) = true := by simp
                go_simp
                rfl
              try simp only [Act.put, List.setIfInBounds_toArray, List.set_cons_zero, List.set_cons_succ, List.getElem_toArray, List.getElem_cons_zero, List.getElem_cons_succ]
              refine wpAnyS_take (i := 31) (v := ?_) rfl (by kernel_rfl) (by kernel_rfl) (by kernel_rfl) (fun _ _ _ h => h) (by rfl) (gives_pure (by rfl) ?_) ?_
              rotate_left
              · intro b' d' u' W' hS'
                obtain ⟨f1, f6⟩ := HFY.out W' hS'
                obtain ⟨x0, hbw⟩ := HX0.out W' hS'
                have j1 := (HJB.out.below hS' HJB.out.lt).get 1 (v := .slice (some ⟨gF2, 0, none⟩) j j) rfl
                obtain ⟨s0, s1⟩ := (HC6.out.below hS' HC6.out.lt).c2
                have e1 : ((j : Int) == (l.length : Int)) = true := by rw [HJL.out]; simp
                have e2 : (a == a) = true := by simp
                have e3 : ((bd : Int) + 1 + (si.most + si.least) == (bd : Int) + 1 + (si.most + si.least)) = true := by simp
                go_simp
                rfl
              try simp only [Act.put, List.setIfInBounds_toArray, List.set_cons_zero, List.set_cons_succ, List.getElem_toArray, List.getElem_cons_zero, List.getElem_cons_succ]
              refine wpAnyS_take (i := 32) (v := ?_) rfl (by kernel_rfl) (by kernel_rfl) (by kernel_rfl) (fun _ _ _ h => h) (by rfl) (gives_pure (by rfl) ?_) ?_
              rotate_left
              · intro b' d' u' W' hS'
                obtain ⟨f1, f6⟩ := HFY.out W' hS'
                obtain ⟨x0, hbw⟩ := HX0.out W' hS'
                have j1 := (HJB.out.below hS' HJB.out.lt).get 1 (v := .slice (some ⟨gF2, 0, none⟩) j j) rfl
                obtain ⟨s0, s1⟩ := (HC6.out.below hS' HC6.out.lt).c2
                have e1 : ((j : Int) == (l.length : Int)) = true := by rw [HJL.out]; simp
                have e2 : (a == a) = true := by simp
                have e3 : ((bd : Int) + 1 + (si.most + si.least) == (bd : Int) + 1 + (si.most + si.least)) = true := by simp
                go_simp
                rfl
              try simp only [Act.put, List.setIfInBounds_toArray, List.set_cons_zero, List.set_cons_succ, List.getElem_toArray, List.getElem_cons_zero, List.getElem_cons_succ]
              refine wpAnyS_take (i := 33) (v := ?_) rfl (by kernel_rfl) (by kernel_rfl) (by kernel_rfl) (fun _ _ _ h => h) (by rfl) (gives_pure (by rfl) ?_) ?_
              rotate_left
              · intro b' d' u' W' hS'
                obtain ⟨f1, f6⟩ := HFY.out W' hS'
                obtain ⟨x0, hbw⟩ := HX0.out W' hS'
                have j1 := (HJB.out.below hS' HJB.out.lt).get 1 (v := .slice (some ⟨gF2, 0, none⟩) j j) rfl
                obtain ⟨s0, s1⟩ := (HC6.out.below hS' HC6.out.lt).c2
                have e1 : ((j : Int) == (l.length : Int)) = true := by rw [HJL.out]; simp
                have e2 : (a == a) = true := by simp
                have e3 : ((bd : Int) + 1 + (si.most + si.least) == (bd : Int) + 1 + (si.most + si.least)) = true := by simp
                go_simp
                rfl
              try simp only [Act.put, List.setIfInBounds_toArray, List.set_cons_zero, List.set_cons_succ, List.getElem_toArray, List.getElem_cons_zero, List.getElem_cons_succ]
              refine wpAnyS_take (i := 34) (v := .bool true) rfl (by kernel_rfl) (by kernel_rfl) (by kernel_rfl) (fun _ _ _ h => h) (by rfl) (gives_call (by rfl) _ _ ?_ (fun b' d' u' W' hS' => (HWK.out W').mono (fun _ _ h => ⟨h.1, hS'.trans (h.2.mono hS'.size)⟩))) ?_
              · intro W'
                first | rfl | kernel_rfl
              try simp only [Act.put, List.setIfInBounds_toArray, List.set_cons_zero, List.set_cons_succ, List.getElem_toArray, List.getElem_cons_zero, List.getElem_cons_succ]
              refine wpAnyS_take (i := 35) (v := ?_) rfl (by kernel_rfl) (by kernel_rfl) (by kernel_rfl) (fun _ _ _ h => h) (by rfl) (gives_pure (by rfl) ?_) ?_
              rotate_left
              · intro b' d' u' W' hS'
                obtain ⟨f1, f6⟩ := HFY.out W' hS'
                obtain ⟨x0, hbw⟩ := HX0.out W' hS'
                have j1 := (HJB.out.below hS' HJB.out.lt).get 1 (v := .slice (some ⟨gF2, 0, none⟩) j j) rfl
                obtain ⟨s0, s1⟩ := (HC6.out.below hS' HC6.out.lt).c2
                have e1 : ((j : Int) == (l.length : Int)) = true := by rw [HJL.out]; simp
                have e2 : (a == a) = true := by simp
                have e3 : ((bd : Int) + 1 + (si.most + si.least) == (bd : Int) + 1 + (si.most + si.least)) = true := by simp
                go_simp
                rfl
              try simp only [Act.put, List.setIfInBounds_toArray, List.set_cons_zero, List.set_cons_succ, List.getElem_toArray, List.getElem_cons_zero, List.getElem_cons_succ]
              refine wpAnyS_take (i := 36) (v := ?_) rfl (by kernel_rfl) (by kernel_rfl) (by kernel_rfl) (fun _ _ _ h => h) (by rfl) (gives_pure (by rfl) ?_) ?_
              rotate_left
              · intro b' d' u' W' hS'
                obtain ⟨f1, f6⟩ := HFY.out W' hS'
                obtain ⟨x0, hbw⟩ := HX0.out W' hS'
                have j1 := (HJB.out.below hS' HJB.out.lt).get 1 (v := .slice (some ⟨gF2, 0, none⟩) j j) rfl
                obtain ⟨s0, s1⟩ := (HC6.out.below hS' HC6.out.lt).c2
                have e1 : ((j : Int) == (l.length : Int)) = true := by rw [HJL.out]; simp
                have e2 : (a == a) = true := by simp
                have e3 : ((bd : Int) + 1 + (si.most + si.least) == (bd : Int) + 1 + (si.most + si.least)) = true := by simp
                go_simp
                rfl
              try simp only [Act.put, List.setIfInBounds_toArray, List.set_cons_zero, List.set_cons_succ, List.getElem_toArray, List.getElem_cons_zero, List.getElem_cons_succ]
              refine wpAnyS_done (b := true) (d := true) (by kernel_rfl) (by kernel_rfl) (by kernel_rfl) rfl (fun w40 h40 => ?_) _
              have H40 := Lib.hid (HW6.out.trans (h40.mono HW6.out.size))
              clear h40
              go_wp2_with fail
              go_ret
              exact ⟨rfl, H40.out⟩
end Go.Proofs.Ytlebbkhhhmempaa
