/- Contracts: content.Node. -/
import Derived.Test.YtbopeofglhkffaaCni
import Derived.Laws.ResultCell
set_option linter.unusedSimpArgs false
set_option linter.unusedVariables false
namespace Go.Proofs.Ytbopeofglhkffaa
open Go.RowKit
attribute [local go_sem] block_of_add
/-- The variables of Node. -/
structure NoI (s : Sty) (bt : Array Value) (w wr : World) (a b c d : Int) : Prop where
  t : Blk wr (w.heap.size) 25 bt
  n : Blk wr (w.heap.size + 1) 45 #[.int .i64 a, .int .i64 b, .int .i64 c, .int .i64 d]
  s : Blk wr (w.heap.size + 1 + 1) 52 (styCells s).toArray
  b : Below w.heap.size w wr
theorem NoI.kept {s : Sty} {bt : Array Value} {w wr w' : World} {a b c d : Int} (h : NoI s bt w wr a b c d) (hb : Below wr.heap.size wr w') : NoI s bt w w' a b c d :=
  ⟨h.t.below hb h.t.lt, h.n.below hb h.n.lt, h.s.below hb h.s.lt, h.b.trans (hb.mono h.b.size)⟩
theorem NoI.s0 {s : Sty} {bt : Array Value} {w wr : World} {a b c d : Int} (h : NoI s bt w wr a b c d) (x : Int) : NoI s bt w (wr.setCell ⟨w.heap.size + 1, 0, none⟩ (.int .i64 x)) x b c d :=
  ⟨h.t.far (by simp) _, by have := h.n.set_ 0 (.int .i64 x); simpa using this, h.s.far (by simp) _, h.b.setCell (p := ⟨w.heap.size + 1, 0, none⟩) (by simp) _⟩
theorem NoI.s1 {s : Sty} {bt : Array Value} {w wr : World} {a b c d : Int} (h : NoI s bt w wr a b c d) (x : Int) : NoI s bt w (wr.setCell ⟨w.heap.size + 1, 1, none⟩ (.int .i64 x)) a x c d :=
  ⟨h.t.far (by simp) _, by have := h.n.set_ 1 (.int .i64 x); simpa using this, h.s.far (by simp) _, h.b.setCell (p := ⟨w.heap.size + 1, 1, none⟩) (by simp) _⟩
theorem NoI.s2 {s : Sty} {bt : Array Value} {w wr : World} {a b c d : Int} (h : NoI s bt w wr a b c d) (x : Int) : NoI s bt w (wr.setCell ⟨w.heap.size + 1, 2, none⟩ (.int .i64 x)) a b x d :=
  ⟨h.t.far (by simp) _, by have := h.n.set_ 2 (.int .i64 x); simpa using this, h.s.far (by simp) _, h.b.setCell (p := ⟨w.heap.size + 1, 2, none⟩) (by simp) _⟩
theorem NoI.s3 {s : Sty} {bt : Array Value} {w wr : World} {a b c d : Int} (h : NoI s bt w wr a b c d) (x : Int) : NoI s bt w (wr.setCell ⟨w.heap.size + 1, 3, none⟩ (.int .i64 x)) a b c x :=
  ⟨h.t.far (by simp) _, by have := h.n.set_ 3 (.int .i64 x); simpa using this, h.s.far (by simp) _, h.b.setCell (p := ⟨w.heap.size + 1, 3, none⟩) (by simp) _⟩
theorem SlAt.st {s : Sty} {bt : Array Value} {w wr : World} {a b c d : Int} {v : Value} {l : List Int} (h : SlAt wr wr.heap.size v l) (hn : NoI s bt w wr a b c d) (i : Nat) (u : Value) : SlAt (wr.setCell ⟨w.heap.size + 1, i, none⟩ u) (wr.setCell ⟨w.heap.size + 1, i, none⟩ u).heap.size v l :=
  (h.set_ hn.n (by decide) i u).more (by simp [World.setCell])
theorem res_node {fn : Func} (hr : fn.results = #[.cell 8 45, .tmp 9]) (tmps : Array Value) (w : World) (g : Nat) (a b c d : Int) (v9 : Value) (hp : tmps.getD 8 undef = .pointer (some ⟨g, 0, none⟩)) (h9 : tmps.getD 9 undef = v9) (hg : Blk w g 45 #[.int .i64 a, .int .i64 b, .int .i64 c, .int .i64 d]) :
    (results fn tmps).run Try.prog w = .ok (.tuple #[.agg #[.int .i64 a, .int .i64 b, .int .i64 c, .int .i64 d], v9]) w := by
  rw [results_cell_tmp hr, hp, h9]
  have h := run_loadVar_row (P := Try.prog) w g 45 45 #[.int .i64 a, .int .i64 b, .int .i64 c, .int .i64 d] (0, 0) _ hg Try.underlying45 rfl (by kernel_rfl)
  simp [asAddr, h, Result.andThen]
section
variable (l : List Nd) (adv ks : List Int) (got : List Cn) (A A2 Ak Ag : Option Addr) (c c2 ck cg : Nat) (view : Int) (w : World)
set_option maxRecDepth 100000 in
set_option maxHeartbeats 1000000 in
theorem node17_any (i : Nat) (hi : i < l.length) (ht : TrH w w.heap.size A A2 l adv) (hsb : l[i].s.kind ≠ 3 → StyB l[i].s) (hk : Reads w w.heap.size 1 Ak ks.length (i64s ks)) (hks : ∀ k ∈ ks, 0 ≤ k ∧ k < l.length) (hkn : ks.length ≤ 100000) (hun : linesK l ks = true → unK l ks ≤ 1000000)
    (hg : Reads w w.heap.size 4 Ag got.length (cnsCells got)) (hgc : ∀ x ∈ got, (0 ≤ x.ol ∧ x.ol ≤ 4611686018427387904) ∧ (0 ≤ x.og ∧ x.og ≤ 4611686018427387904)) :
    Calls Try.prog 27 #[.agg #[.slice A l.length c, .slice A2 adv.length c2, .int .i64 view], .int .i64 i, .slice Ak ks.length ck, .slice Ag got.length cg] w fun e w' => e = .returned (.tuple #[.agg (cnCells (nodeP l adv i ks got).1).toArray, .bool (nodeP l adv i ks got).2]) ∧ Below w.heap.size w w' := by
  obtain ⟨ad, rfl, hnd⟩ := ht.nd.nd rfl hi
  obtain ⟨Au, cu, huv, _⟩ := ht.un l[i] (List.getElem_mem hi)
  have HNF : Hid (nodeP l adv i ks got = if l[i].s.kind = 3 then (⟨0, 0, 0, 0⟩, false) else conP l[i].s (wantF l adv l[i].s ks got)) := Lib.hid (by unfold nodeP; rw [styAt_nat hi])
  have hz := hnd.lt
  rw [block_of_add] at hz
  have y0 : w.cell? ⟨ad.block, (ad.add (i * 44)).off + 1, none⟩ = some (.int .u8 l[i].s.kind) := by rw [← block_of_add ad (i * 44)]; exact hnd.cs 0 _ rfl
  obtain ⟨s, hs⟩ : ∃ s, s = l[i].s := ⟨_, rfl⟩
  have HC : Hid (∀ (o o2 : Obj) j u, (styCells s)[j]? = some u → ((w.alloc o).alloc o2).cell? ((⟨ad.block, (ad.add (i * 44)).off + 1, none⟩ : Addr).add j) = some u) := Lib.hid (by
    intro o o2 j u hu
    have hj : (⟨ad.block, (ad.add (i * 44)).off + 1, none⟩ : Addr).add j = ⟨(ad.add (i * 44)).block, (ad.add (i * 44)).off + (1 + j), none⟩ := by
      rw [block_of_add]
      unfold Addr.add
      split <;> simp_all <;> omega
    rw [hj]
    have h1 := hnd.cs j u (by rw [← hs]; exact hu)
    rw [World.cell?_alloc_lt _ _ _ (by rw [block_of_add]; simp; omega), World.cell?_alloc_lt _ _ _ (by rw [block_of_add]; exact hz)]
    exact h1)
  have HO := Lib.hid (Sty.one s (by rw [hs]; exact huv))
  have HUV : Hid (s.uv = .slice Au l[i].s.units.length cu) := Lib.hid (by rw [hs]; exact huv)
  rw [← hs] at HNF y0 hsb
  have e1 : decide ((i : Int) < 0) = false := decide_eq_false (by omega)
  have e2 : decide ((l.length : Int) ≤ (i : Int)) = false := decide_eq_false (by omega)
  have e2' : decide (l.length ≤ i) = false := decide_eq_false (by omega)
  have e3 : decide ((i : Int) < (l.length : Int)) = true := decide_eq_true (by omega)
  have HB2 : Hid (∀ o o2 : Obj, Below w.heap.size w ((w.alloc o).alloc o2)) := Lib.hid (fun o o2 => ((Below.refl _ _).alloc (Nat.le_refl _) _).alloc (by simp) _)
  have HT := Lib.hid ht
  have HK := Lib.hid hk
  have HKS := Lib.hid hks
  have HKN := Lib.hid hkn
  have HUN := Lib.hid hun
  have HG := Lib.hid hg
  have HGC := Lib.hid hgc
  have HSB := Lib.hid hsb
  clear hs hnd huv ht hk hks hun hg hgc hsb
  by_cases h3 : s.kind = 3
  · have k3 : (s.kind == 3) = true := beq_iff_eq.2 h3
    have H3 := Lib.hid h3
    clear h3
    go_enter Try.func27, Try.ntmps27
    go_wp2_with fail
    refine bodyPost_ret (res_node Try.results27 _ _ (w.heap.size + 1) 0 0 0 0 (.bool false) rfl rfl (Blk.at_ _ _ _ (by simp))) rfl ?_
    rw [HNF.out, if_pos H3.out]
    exact ⟨rfl, HB2.out _ _⟩
  have k3 : (s.kind == 3) = false := beq_eq_false_iff_ne.2 h3
  have H3 := Lib.hid h3
  have HS := Lib.hid (HSB.out h3)
  clear h3
  have hmk := fun W => make_cns ks.length (by omega) W
  have HNI : Hid (∀ o3 : Obj, NoI s #[.slice (some ad) l.length c, .slice A2 adv.length c2, .int .i64 view] w ((((w.alloc (.cells #[.slice (some ad) l.length c, .slice A2 adv.length c2, .int .i64 view] 25)).alloc (.cells #[.int .i64 0, .int .i64 0, .int .i64 0, .int .i64 0] 45)).alloc (.cells (styCells s).toArray 52)).alloc o3) 0 0 0 0) := Lib.hid (fun o3 =>
    ⟨(((Blk.new _ _ _).alloc _).alloc _).alloc _, ((Blk.at_ _ _ _ (by simp)).alloc _).alloc _, (Blk.at_ _ _ _ (by simp)).alloc _, ((((Below.refl _ _).alloc (Nat.le_refl _) _).alloc (by simp) _).alloc (by simp; omega) _).alloc (by simp; omega) _⟩)
  have HB3 : Hid (Below w.heap.size w (((w.alloc (.cells #[.slice (some ad) l.length c, .slice A2 adv.length c2, .int .i64 view] 25)).alloc (.cells #[.int .i64 0, .int .i64 0, .int .i64 0, .int .i64 0] 45)).alloc (.cells (styCells s).toArray 52))) := Lib.hid ((((Below.refl _ _).alloc (Nat.le_refl _) _).alloc (by simp) _).alloc (by simp; omega) _)
  have HG3 := Lib.hid (HG.out.below HB3.out)
  have HZ3 := Lib.hid HB3.out.size
  have HGZ : Hid (w.heap.size + 1 + 1 + 1 = (((w.alloc (.cells #[.slice (some ad) l.length c, .slice A2 adv.length c2, .int .i64 view] 25)).alloc (.cells #[.int .i64 0, .int .i64 0, .int .i64 0, .int .i64 0] 45)).alloc (.cells (styCells s).toArray 52)).heap.size) := Lib.hid (by simp)
  obtain ⟨v50, hcp⟩ := run_copy_cns (P := Try.prog) (((w.alloc (.cells #[.slice (some ad) l.length c, .slice A2 adv.length c2, .int .i64 view] 25)).alloc (.cells #[.int .i64 0, .int .i64 0, .int .i64 0, .int .i64 0] 45)).alloc (.cells (styCells s).toArray 52)) 28 28 3 45 el_cn.ht (by kernel_rfl) ks.length cg got 45 HG3.out HZ3.out
  rw [← HGZ.out] at hcp
  have HRG := Lib.hid (sty_rng (HNI.out (.cells (cnsCells (allF got ks.length)).toArray 45)).s)
  have HB4 : Hid (Below w.heap.size w ((((w.alloc (.cells #[.slice (some ad) l.length c, .slice A2 adv.length c2, .int .i64 view] 25)).alloc (.cells #[.int .i64 0, .int .i64 0, .int .i64 0, .int .i64 0] 45)).alloc (.cells (styCells s).toArray 52)).alloc (.cells (cnsCells (allF got ks.length)).toArray 45))) := Lib.hid (HB3.out.alloc HZ3.out _)
  have HAR : Hid (Reads ((((w.alloc (.cells #[.slice (some ad) l.length c, .slice A2 adv.length c2, .int .i64 view] 25)).alloc (.cells #[.int .i64 0, .int .i64 0, .int .i64 0, .int .i64 0] 45)).alloc (.cells (styCells s).toArray 52)).alloc (.cells (cnsCells (allF got ks.length)).toArray 45)) ((((w.alloc (.cells #[.slice (some ad) l.length c, .slice A2 adv.length c2, .int .i64 view] 25)).alloc (.cells #[.int .i64 0, .int .i64 0, .int .i64 0, .int .i64 0] 45)).alloc (.cells (styCells s).toArray 52)).alloc (.cells (cnsCells (allF got ks.length)).toArray 45)).heap.size 4 (some ⟨w.heap.size + 1 + 1 + 1, 0, none⟩) ks.length (cnsCells (allF got ks.length))) := Lib.hid (by
    have h := World.ownsRow_lit (e := 45) (size := 4) (((w.alloc (.cells #[.slice (some ad) l.length c, .slice A2 adv.length c2, .int .i64 view] 25)).alloc (.cells #[.int .i64 0, .int .i64 0, .int .i64 0, .int .i64 0] 45)).alloc (.cells (styCells s).toArray 52)) (cnsCells (allF got ks.length)).toArray ks.length (Nat.le_refl _) (by simp only [maxLen]; omega) (by rw [List.size_toArray, cnsCells_len, allF_len])
    rw [← HGZ.out] at h
    have h2 := Reads.of_own h
    simpa using h2)
  have HWA : Hid (Calls Try.prog 47 #[.agg #[.slice (some ad) l.length c, .slice A2 adv.length c2, .int .i64 view], .agg (styCells s).toArray, .slice Ak ks.length ck, .slice (some ⟨w.heap.size + 1 + 1 + 1, 0, none⟩) ks.length ks.length] ((((w.alloc (.cells #[.slice (some ad) l.length c, .slice A2 adv.length c2, .int .i64 view] 25)).alloc (.cells #[.int .i64 0, .int .i64 0, .int .i64 0, .int .i64 0] 45)).alloc (.cells (styCells s).toArray 52)).alloc (.cells (cnsCells (allF got ks.length)).toArray 45)) fun e w' => WantAns (wantF l adv s ks got) ((((w.alloc (.cells #[.slice (some ad) l.length c, .slice A2 adv.length c2, .int .i64 view] 25)).alloc (.cells #[.int .i64 0, .int .i64 0, .int .i64 0, .int .i64 0] 45)).alloc (.cells (styCells s).toArray 52)).alloc (.cells (cnsCells (allF got ks.length)).toArray 45)) w' e) := Lib.hid (by
    have h := wanted_any l adv ks s (allF got ks.length) (some ad) A2 Ak (some ⟨w.heap.size + 1 + 1 + 1, 0, none⟩) c c2 ck ks.length view ((((w.alloc (.cells #[.slice (some ad) l.length c, .slice A2 adv.length c2, .int .i64 view] 25)).alloc (.cells #[.int .i64 0, .int .i64 0, .int .i64 0, .int .i64 0] 45)).alloc (.cells (styCells s).toArray 52)).alloc (.cells (cnsCells (allF got ks.length)).toArray 45)) ((HT.out.below HB4.out).more HB4.out.size) ((HK.out.below HB4.out).more HB4.out.size) HKS.out HKN.out HUN.out (by rw [allF_len]; exact HAR.out) (allF_len _ _) (fun x hx => by
      rcases allF_mem hx with h | h
      · exact HGC.out x h
      · rw [h]; simp [cn0])
    rw [allF_len] at h
    exact h)
  have HN4 := Lib.hid (HNI.out (.cells (cnsCells (allF got ks.length)).toArray 45))
  obtain ⟨R, hR⟩ : ∃ R, R = wantF l adv s ks got := ⟨_, rfl⟩
  rw [← hR] at HWA HNF
  clear hR
  obtain ⟨r1, r2, b0⟩ := R
  go_enter Try.func27, Try.ntmps27
  go_upto_region 5 with (first
    | refine wpList_load_at rfl 52 _ rfl ⟨ad.block, (ad.add (i * 44)).off + 1, none⟩ rfl (styCells s) _ (HC.out _ _) Try.underlying52 rfl (by kernel_rfl) ?_
    | refine wpList_store_new rfl 52 _ _ rfl (w.heap.size + 1 + 1) (by simp) (styCells s).toArray rfl rfl 52 _ (by kernel_rfl) rfl HO.out ?_)
  go_wp2_with (refine wpList_load_mid rfl 52 _ rfl (w.heap.size + 1 + 1) 0 rfl (styCells s) _ HRG.out Try.underlying52 rfl (by kernel_rfl) ?_)
  refine HWA.out.mono ?_
  rintro e w5 ⟨⟨F, caps, rfl, eg, hcl⟩, hb5⟩
  have HN5 := Lib.hid (HN4.out.kept hb5)
  have HCL := Lib.hid (hcl w5 (Below.refl _ _))
  clear hb5 hcl hcp hmk
  go_wp2_with fail
  refine HCL.out.mono ?_
  rintro e w6 ⟨⟨vl, vg, ll, lg, rfl, sl, sg, hl1, hg1, il, ig, nl, ng⟩, hb6⟩
  have HN6 := Lib.hid (HN5.out.kept hb6)
  have HP := Lib.hid (And.intro il (And.intro ig (And.intro nl ng)))
  have HL6 := Lib.hid sl
  have HG6 := Lib.hid sg
  have HE := Lib.hid (And.intro hl1 hg1)
  clear hb6 il ig nl ng sl sg hl1 hg1
  go_wp2_with fail
  refine (sum_sl ll vl w6 HP.out.1 (by have := HP.out.2.2.1; omega) HL6.out).mono ?_
  rintro e w7 ⟨rfl, hb7⟩
  have HN7 := Lib.hid (HN6.out.kept hb7)
  have HL7 := Lib.hid ((HL6.out.below hb7).more hb7.size)
  have HG7 := Lib.hid ((HG6.out.below hb7).more hb7.size)
  rw [HE.out.1]
  obtain ⟨n1, hn1⟩ : ∃ n1, n1 = cutF r1 := ⟨_, rfl⟩
  obtain ⟨b1, hb1⟩ : ∃ b1, b1 = cutB r1 := ⟨_, rfl⟩
  rw [← hn1, ← hb1]
  have HX1 := Lib.hid (And.intro hn1 hb1)
  clear hb7 hn1 hb1
  have q := HN7.out.n.c4
  have qf := HN7.out.n.frozen 0
  have HN8 := Lib.hid (HN7.out.s0 n1)
  have HL8 := Lib.hid (HL7.out.st HN7.out 0 (.int .i64 n1))
  have HG8 := Lib.hid (HG7.out.st HN7.out 0 (.int .i64 n1))
  go_wp2_with fail
  refine (sum_sl lg vg _ HP.out.2.1 (by have := HP.out.2.2.2; omega) HG8.out).mono ?_
  rintro e w9 ⟨rfl, hb9⟩
  have HN9 := Lib.hid (HN8.out.kept hb9)
  have HL9 := Lib.hid ((HL8.out.below hb9).more hb9.size)
  have HG9 := Lib.hid ((HG8.out.below hb9).more hb9.size)
  rw [HE.out.2]
  obtain ⟨n2, hn2⟩ : ∃ n2, n2 = cutF r2 := ⟨_, rfl⟩
  obtain ⟨b2, hb2⟩ : ∃ b2, b2 = cutB r2 := ⟨_, rfl⟩
  rw [← hn2, ← hb2]
  have HX2 := Lib.hid (And.intro hn2 hb2)
  clear hb9 hn2 hb2 q qf
  have q := HN9.out.n.c4
  have qf := HN9.out.n.frozen 1
  have HN10 := Lib.hid (HN9.out.s1 n2)
  have HL10 := Lib.hid (HL9.out.st HN9.out 1 (.int .i64 n2))
  have HG10 := Lib.hid (HG9.out.st HN9.out 1 (.int .i64 n2))
  have HRG10 := Lib.hid (sty_rng HN10.out.s)
  go_wp2_with (refine wpList_load_mid rfl 52 _ rfl (w.heap.size + 1 + 1) 0 rfl (styCells s) _ HRG10.out Try.underlying52 rfl (by kernel_rfl) ?_)
  refine (outer_any s ll vl _ HS.out HP.out.1 HP.out.2.2.1 HL10.out HUV.out).mono ?_
  rintro e w11 ⟨rfl, hb11⟩
  have HN11 := Lib.hid (HN10.out.kept hb11)
  have HG11 := Lib.hid ((HG10.out.below hb11).more hb11.size)
  rw [HE.out.1]
  obtain ⟨n3, hn3⟩ : ∃ n3, n3 = cutF (outP s r1) := ⟨_, rfl⟩
  obtain ⟨b3, hb3⟩ : ∃ b3, b3 = cutB (outP s r1) := ⟨_, rfl⟩
  rw [← hn3, ← hb3]
  have HX3 := Lib.hid (And.intro hn3 hb3)
  clear hb11 hn3 hb3 q qf
  have q := HN11.out.n.c4
  have qf := HN11.out.n.frozen 2
  have HN12 := Lib.hid (HN11.out.s2 n3)
  have HG12 := Lib.hid (HG11.out.st HN11.out 2 (.int .i64 n3))
  have HRG12 := Lib.hid (sty_rng HN12.out.s)
  go_wp2_with (refine wpList_load_mid rfl 52 _ rfl (w.heap.size + 1 + 1) 0 rfl (styCells s) _ HRG12.out Try.underlying52 rfl (by kernel_rfl) ?_)
  refine (outer_any s lg vg _ HS.out HP.out.2.1 HP.out.2.2.2 HG12.out HUV.out).mono ?_
  rintro e w13 ⟨rfl, hb13⟩
  have HN13 := Lib.hid (HN12.out.kept hb13)
  rw [HE.out.2]
  obtain ⟨n4, hn4⟩ : ∃ n4, n4 = cutF (outP s r2) := ⟨_, rfl⟩
  obtain ⟨b4, hb4⟩ : ∃ b4, b4 = cutB (outP s r2) := ⟨_, rfl⟩
  rw [← hn4, ← hb4]
  have HX4 := Lib.hid (And.intro hn4 hb4)
  clear hb13 hn4 hb4 q qf
  have q := HN13.out.n.c4
  have qf0 := HN13.out.n.frozen 0
  have qf1 := HN13.out.n.frozen 1
  have qf2 := HN13.out.n.frozen 2
  have qf3 := HN13.out.n.frozen 3
  have HN14 := Lib.hid (HN13.out.s3 n4)
  have HND : Hid (nodeP l adv i ks got = (⟨n1, n2, n3, n4⟩, b0 || b1 || b2 || b3 || b4)) := Lib.hid (by
    rw [HNF.out, if_neg H3.out, HX1.out.1, HX1.out.2, HX2.out.1, HX2.out.2, HX3.out.1, HX3.out.2, HX4.out.1, HX4.out.2]; rfl)
  have HN15 := Lib.hid ((((HN14.out.s0 n1).s1 n2).s2 n3).s3 n4)
  go_wp2_with fail
  all_goals
    refine bodyPost_ret (res_node Try.results27 _ _ (w.heap.size + 1) n1 n2 n3 n4 _ rfl rfl HN15.out.n) rfl ?_
    rw [HND.out]
    exact ⟨by show Ending.returned (.tuple #[_, .bool _]) = _; simp [cnCells] <;> simp_all only [Bool.not_eq_true, Bool.false_eq_true, or_true, true_or, or_false, false_or, or_self, not_true, not_false_iff, imp_self, true_implies, false_implies, implies_true], HN15.out.b⟩
end
end Go.Proofs.Ytbopeofglhkffaa
