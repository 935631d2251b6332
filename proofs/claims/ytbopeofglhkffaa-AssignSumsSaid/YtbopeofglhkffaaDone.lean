/- The contract of the closure in text.Extent: a row is shut. -/
import Derived.Test.YtbopeofglhkffaaWalka
import Derived.Test.YtbopeofglhkffaaApp
set_option linter.unusedSimpArgs false
set_option linter.unusedVariables false
namespace Go.Proofs.Ytbopeofglhkffaa
open Go.RowKit Go.Shelf
attribute [local go_sem] block_of_add Oper.semAt_some
set_option maxRecDepth 100000 in
set_option maxHeartbeats 4000000 in
theorem words_any (l t : List Int) (A B : Option Addr) (c d : Nat) (w : World) (hl : U16s l) (ht : I64s t) (hn : l.length ≤ 1048576) (hc : l.length ≤ c) (hrl : Reads w w.heap.size 1 A l.length (u16s l)) (hrt : Reads w w.heap.size 1 B t.length (i64s t)) :
    Calls Try.prog 93 #[.slice A l.length c, .slice B t.length d] w fun e w' => ∃ v, e = .returned (.tuple #[v, .bool (wordsF t l).2]) ∧ w'.ownsRow w.heap.size 146 5 v (wordsF t l).1.length (wdsCells (wordsF t l).1) ∧ Below w.heap.size w w' := by
  refine (callsIn_wide (n := 5)).1 ?_
  refine callsIn_of_wp_marks Try.func93 rfl trivial ?_ rfl
  simp only [Try.ntmps93, List.size_toArray, List.length_cons, List.length_nil, Nat.reduceAdd, Nat.reduceSub, Array.replicate_succ, Array.replicate_zero, List.push_toArray, List.append_toArray, List.nil_append, List.cons_append]
  have HL := Lib.hid hrl
  have HT := Lib.hid hrt
  clear hrl hrt
  gi_wp2_with (first
    | (refine ⟨trivial, ?_⟩; gi_at_call 102; refine (callsIn_wide.2 (adv_any t B d _ (by exact ((((HT.out.alloc (Nat.le_refl _) _).alloc (by simp) _).alloc (by simp; omega) _).alloc (by simp; omega) _).more (by simp; omega)) 32 (by decide) (by decide))).mono ?_; rintro e w' ⟨rfl, rfl⟩)
    | (refine ⟨trivial, ?_⟩; gi_at_call 40; refine (callsIn_wide.2 (cut_any _ _)).mono ?_; rintro e w' ⟨rfl, rfl⟩)
    | (refine ⟨trivial, ?_⟩; gi_at_call 103; refine (callsIn_wide.2 (spans_any _ _ _ _)).mono ?_; rintro e w' ⟨rfl, rfl⟩))
  have hwi : WI w t l A B c d [] (((((((w.alloc (.cells #[.slice A l.length c] 50)).alloc (.cells #[.slice B t.length d] 23)).alloc (.cells #[.slice none 0 0] 121)).alloc (.cells #[.bool false] 4)).alloc (.cells #[.int .i64 (cutF (adv t 32))] 2)).alloc (.cells #[.bool (cutB (adv t 32))] 4)).alloc (.cells #[.slice A l.length c] 50)) := by
    refine ⟨⟨.slice none 0 0, ?_, World.ownsRow_nil _ _ _ _⟩, ?_, ?_, ?_, ?_, ?_, ?_, ?_⟩
    · exact ((((Blk.at_ _ _ _ (by simp)).alloc _).alloc _).alloc _).alloc _
    · exact (((Blk.at_ _ _ _ (by simp)).alloc _).alloc _).alloc _
    · exact ((((((Blk.new _ _ _).alloc _).alloc _).alloc _).alloc _).alloc _).alloc _
    · exact (((((Blk.at_ _ _ _ (by simp)).alloc _).alloc _).alloc _).alloc _).alloc _
    · exact ((Blk.at_ _ _ _ (by simp)).alloc _).alloc _
    · exact (Blk.at_ _ _ _ (by simp)).alloc _
    · exact Blk.at_ _ _ _ (by simp)
    · exact ((((((((Below.refl _ _).alloc (Nat.le_refl _) _).alloc (by simp) _).alloc (by simp; omega) _).alloc (by simp; omega) _).alloc (by simp; omega) _).alloc (by simp; omega) _).alloc (by simp; omega) _)
  generalize hW0 : World.alloc (World.alloc (World.alloc (World.alloc (World.alloc (World.alloc (World.alloc w _) _) _) _) _) _) _ = W0
  rw [hW0] at hwi
  have hs0 : W0.heap.size = w.heap.size + 1 + 1 + 1 + 1 + 1 + 1 + 1 := by rw [← hW0]; simp
  clear hW0
  have HS0 := Lib.hid hs0
  have hs1 : w.heap.size + 1 + 1 + 1 + 1 + 1 + 1 < W0.heap.size := by omega
  clear hs0
  refine wpIn_rangeC (F := Fence.wide) (n := 5) (w0 := W0) rfl (by decide) (gf := 107) (lb := #[.pointer (some ⟨w.heap.size + 1 + 1 + 1 + 1 + 1 + 1, 0, none⟩)]) rfl trivial (enters_of Try.func107 (by kernel_rfl) rfl) (Z := isSp)
    (by rintro o ⟨cs, fr, rfl⟩; rfl) (iter_any Fence.wide 4 trivial rfl (by decide) l A c w.heap.size (w.heap.size + 1 + 1 + 1 + 1 + 1 + 1) W0 hl (by omega) (by omega) hwi.it (HL.out.below hwi.old)) kp6_t (kp6_b (by omega) hs1) (Below.refl _ _) (fun _ => rfl)
    (WI w t l A B c d) (fun pre X X' h ho => h.others ho (by omega)) hwi (WAx w t l A B c d) ?_ ?_ ?_ ?_
  · rintro x a' X X' ⟨Bx, h1, h2, h3⟩ h
    exact ⟨Bx, h1, h _ _ h2 rfl, h3⟩
  · intro q pre x W K hi hK
    have hd := hi.it.lt
    simp only [spEnc, spCells]
    gi_wp2
    refine hK _ _ ((Round.refl W).alloc _) ⟨(Below.refl _ _).alloc (by omega) _, Below.heap_alloc _ _ _ hd⟩ (hi.others (b := w.heap.size) (Others.alloc _ _) (Nat.le_refl _)) ⟨W.heap.size, hd, Blk.new _ _ _, rfl⟩
  · rintro q pre x a' W hpx hi ⟨Bx, hBx, hbx, rfl⟩
    have hmem : x ∈ spansF l := hpx.subset (by simp)
    have hbd := spans_bounds l x hmem
    have HI := Lib.hid hi
    obtain ⟨⟨v, hv, hown⟩, hfar, hun, had, hgp, hwd, hit, hold⟩ := hi
    obtain ⟨x0, x1, x2, x3⟩ := hbx.c4
    have hlenw : (wordsOf t l pre).1.length ≤ 1048576 := by
      rw [wordsOf_len]
      have h1 := hpx.length_le
      have h2 := spansF_len l
      simp at h1; omega
    have u0 := hun.c1
    have a0 := had.c1
    have hne : ¬ c = x.fr := by omega
    have hup : x.up ≤ c := by omega
    have hfu : x.fr ≤ x.up := by omega
    have hmix : Try.prog.follows .mixedOrders = true := by kernel_rfl
    obtain ⟨ad, rfl, hab, hcl⟩ := HL.out.2 (show 0 < l.length by omega)
    have hrp : Reads W W.heap.size 1 (some (ad.add x.fr)) (part l x).length (u16s (part l x)) := part_reads (HL.out.below hold) hold.size (by omega) hbd.2.1
    have hpl : (part l x).length = x.up - x.fr := part_len (by omega) hbd.2.1
    have hpu : U16s (part l x) := part_u16 hl
    have HC := Lib.hid fun W1 cc (h : Reads W1 W1.heap.size 1 (some (ad.add x.fr)) (part l x).length (u16s (part l x))) hb => wide_any (part l x) t (some (ad.add x.fr)) B cc d W1 hpu ht (by omega) h hb
    rw [hpl] at HC hrp
    clear hpl hcl
    gi_wp2
    have hS : W.drew.cell? ⟨w.heap.size, 0, none⟩ = some (.slice (some ad) l.length c) ∧ W.drew.cell? ⟨w.heap.size + 1, 0, none⟩ = some (.slice B t.length d) ∧ W.drew.cell? ⟨Bx, 0, none⟩ = some (.int .i64 x.fr) ∧ W.drew.cell? ⟨Bx, 1, none⟩ = some (.int .i64 x.up) := ⟨u0, a0, x0, x1⟩
    refine region_round (S := fun W' => W'.cell? ⟨w.heap.size, 0, none⟩ = some (.slice (some ad) l.length c) ∧ W'.cell? ⟨w.heap.size + 1, 0, none⟩ = some (.slice B t.length d) ∧ W'.cell? ⟨Bx, 0, none⟩ = some (.int .i64 x.fr) ∧ W'.cell? ⟨Bx, 1, none⟩ = some (.int .i64 x.up)) hmix ?hd ?hQ hS (fun hS => ?_)
    case hd => exact fun i o ho => notDefer_of (by kernel_rfl) i o ho
    case hQ => rintro ⟨_, _, h⟩; exact h
    refine wpAnyH_take (i := 0) (v := ?_) rfl (by kernel_rfl) (by kernel_rfl) (by kernel_rfl) (fun _ _ _ h => h) (Or.inl ⟨by rfl, ?_⟩) hS ?_
    rotate_left
    · intro W' hS'
      obtain ⟨s1, s2, s3, s4⟩ := hS'
      go_simp
      rfl
    try simp only [Act.put, List.setIfInBounds_toArray, List.set_cons_zero, List.set_cons_succ, List.getElem_toArray, List.getElem_cons_zero, List.getElem_cons_succ]
    refine wpAnyH_take (i := 1) (v := ?_) rfl (by kernel_rfl) (by kernel_rfl) (by kernel_rfl) (fun _ _ _ h => h) (Or.inl ⟨by rfl, ?_⟩) hS ?_
    rotate_left
    · intro W' hS'
      obtain ⟨s1, s2, s3, s4⟩ := hS'
      go_simp
      rfl
    try simp only [Act.put, List.setIfInBounds_toArray, List.set_cons_zero, List.set_cons_succ, List.getElem_toArray, List.getElem_cons_zero, List.getElem_cons_succ]
    refine wpAnyH_take (i := 2) (v := ?_) rfl (by kernel_rfl) (by kernel_rfl) (by kernel_rfl) (fun _ _ _ h => h) (Or.inl ⟨by rfl, ?_⟩) hS ?_
    rotate_left
    · intro W' hS'
      obtain ⟨s1, s2, s3, s4⟩ := hS'
      go_simp
      rfl
    try simp only [Act.put, List.setIfInBounds_toArray, List.set_cons_zero, List.set_cons_succ, List.getElem_toArray, List.getElem_cons_zero, List.getElem_cons_succ]
    refine wpAnyH_take (i := 3) (v := ?_) rfl (by kernel_rfl) (by kernel_rfl) (by kernel_rfl) (fun _ _ _ h => h) (Or.inl ⟨by rfl, ?_⟩) hS ?_
    rotate_left
    · intro W' hS'
      obtain ⟨s1, s2, s3, s4⟩ := hS'
      go_simp
      rfl
    try simp only [Act.put, List.setIfInBounds_toArray, List.set_cons_zero, List.set_cons_succ, List.getElem_toArray, List.getElem_cons_zero, List.getElem_cons_succ]
    refine wpAnyH_take (i := 4) (v := ?_) rfl (by kernel_rfl) (by kernel_rfl) (by kernel_rfl) (fun _ _ _ h => h) (Or.inl ⟨by rfl, ?_⟩) hS ?_
    rotate_left
    · intro W' hS'
      obtain ⟨s1, s2, s3, s4⟩ := hS'
      go_simp
      rfl
    try simp only [Act.put, List.setIfInBounds_toArray, List.set_cons_zero, List.set_cons_succ, List.getElem_toArray, List.getElem_cons_zero, List.getElem_cons_succ]
    refine wpAnyH_take (i := 5) (v := ?_) rfl (by kernel_rfl) (by kernel_rfl) (by kernel_rfl) (fun _ _ _ h => h) (Or.inl ⟨by rfl, ?_⟩) hS ?_
    rotate_left
    · intro W' hS'
      obtain ⟨s1, s2, s3, s4⟩ := hS'
      go_simp
      rfl
    try simp only [Act.put, List.setIfInBounds_toArray, List.set_cons_zero, List.set_cons_succ, List.getElem_toArray, List.getElem_cons_zero, List.getElem_cons_succ]
    refine wpAnyH_take (i := 6) (v := ?_) rfl (by kernel_rfl) (by kernel_rfl) (by kernel_rfl) (fun _ _ _ h => h) (Or.inl ⟨by rfl, ?_⟩) hS ?_
    rotate_left
    · intro W' hS'
      obtain ⟨s1, s2, s3, s4⟩ := hS'
      go_simp
      rfl
    try simp only [Act.put, List.setIfInBounds_toArray, List.set_cons_zero, List.set_cons_succ, List.getElem_toArray, List.getElem_cons_zero, List.getElem_cons_succ]
    refine wpAnyH_ready (rs := [7]) (by kernel_rfl) (by simp) (AllReadyH.cons rfl (fun K hK => ?_) AllReadyH.nil)
    go_simp
    refine (HC.out W.drew _ hrp.drew ((HT.out.below hold).more hold.size).drew).mono ?_
    rintro e W1 ⟨rfl, hb1⟩
    have hb : Below W.heap.size W W1 := ⟨hb1.os, hb1.tape, hb1.output, hb1.size, hb1.block⟩
    refine hK.out _ _ ?_ (fun hS => ?_)
    · exact ⟨(hb.cell (p := ⟨_, 0, none⟩) hun.lt).trans u0, (hb.cell (p := ⟨_, 0, none⟩) had.lt).trans a0, (hb.cell (p := ⟨_, 0, none⟩) hbx.lt).trans x0, (hb.cell (p := ⟨_, 1, none⟩) hbx.lt).trans x1⟩
    try simp only [Act.put, List.setIfInBounds_toArray, List.set_cons_zero, List.set_cons_succ, List.getElem_toArray, List.getElem_cons_zero, List.getElem_cons_succ]
    refine wpAnyH_take (i := 8) (v := ?_) rfl (by kernel_rfl) (by kernel_rfl) (by kernel_rfl) (fun _ _ _ h => h) (Or.inl ⟨by rfl, ?_⟩) hS ?_
    rotate_left
    · intro W' hS'
      obtain ⟨s1, s2, s3, s4⟩ := hS'
      go_simp
      rfl
    try simp only [Act.put, List.setIfInBounds_toArray, List.set_cons_zero, List.set_cons_succ, List.getElem_toArray, List.getElem_cons_zero, List.getElem_cons_succ]
    refine wpAnyH_take (i := 9) (v := ?_) rfl (by kernel_rfl) (by kernel_rfl) (by kernel_rfl) (fun _ _ _ h => h) (Or.inl ⟨by rfl, ?_⟩) hS ?_
    rotate_left
    · intro W' hS'
      obtain ⟨s1, s2, s3, s4⟩ := hS'
      go_simp
      rfl
    try simp only [Act.put, List.setIfInBounds_toArray, List.set_cons_zero, List.set_cons_succ, List.getElem_toArray, List.getElem_cons_zero, List.getElem_cons_succ]
    refine wpAnyH_take (i := 10) (v := ?_) rfl (by kernel_rfl) (by kernel_rfl) (by kernel_rfl) (fun _ _ _ h => h) (Or.inl ⟨by rfl, ?_⟩) hS ?_
    rotate_left
    · intro W' hS'
      obtain ⟨s1, s2, s3, s4⟩ := hS'
      go_simp
      rfl
    try simp only [Act.put, List.setIfInBounds_toArray, List.set_cons_zero, List.set_cons_succ, List.getElem_toArray, List.getElem_cons_zero, List.getElem_cons_succ]
    refine wpAnyH_take (i := 11) (v := ?_) rfl (by kernel_rfl) (by kernel_rfl) (by kernel_rfl) (fun _ _ _ h => h) (Or.inl ⟨by rfl, ?_⟩) hS ?_
    rotate_left
    · intro W' hS'
      obtain ⟨s1, s2, s3, s4⟩ := hS'
      go_simp
      rfl
    try simp only [Act.put, List.setIfInBounds_toArray, List.set_cons_zero, List.set_cons_succ, List.getElem_toArray, List.getElem_cons_zero, List.getElem_cons_succ]
    refine wpAnyH_take (i := 12) (v := ?_) rfl (by kernel_rfl) (by kernel_rfl) (by kernel_rfl) (fun _ _ _ h => h) (Or.inl ⟨by rfl, ?_⟩) hS ?_
    rotate_left
    · intro W' hS'
      obtain ⟨s1, s2, s3, s4⟩ := hS'
      go_simp
      rfl
    try simp only [Act.put, List.setIfInBounds_toArray, List.set_cons_zero, List.set_cons_succ, List.getElem_toArray, List.getElem_cons_zero, List.getElem_cons_succ]
    refine wpAnyH_done (by kernel_rfl) ?_ _
    clear HC hrp hpu hK
    have hb1' := hbx.below hb hbx.lt
    obtain ⟨y0, y1, y2, y3⟩ := hb1'.c4
    have own1 := own_below hown hb
    obtain ⟨Av, cv, rfl⟩ := own_form hown
    have hv1 := hv.below hb hv.lt
    have hfar1 := hfar.below hb hfar.lt
    have hgp1 := hgp.below hb hgp.lt
    have hwd1 := hwd.below hb hwd.lt
    have z0 := hv1.c1
    have z1 := hfar1.c1
    have z2 := hgp1.c1
    have z3 := hwd1.c1
    have zf := hfar1.frozen
    have hsz1 := hb.size
    have q0 := hb1'.lt
    have q1 := hv1.lt
    have q2 := hfar1.lt
    have q3 := hgp1.lt
    have q4 := hwd1.lt
    clear u0 a0 x0 x1 x2 x3
    have HOWN := Lib.hid fun (nb : Bool) (wc : Array Value) => ((own1.kept (w' := W1.setCell ⟨w.heap.size + 1 + 1 + 1, 0, none⟩ (.bool nb)) (row := some (w.heap.size + 1 + 1 + 1)) ⟨rfl, rfl, rfl, by simp [World.setCell], fun k _ hne => Below.heap_setCell _ _ _ _ (fun e => hne (by rw [e]))⟩
      (.inr (own_blk_ne own1 hfar1 (by decide)))).alloc (.cells wc 146))
    have HNR := Lib.hid fun (g : Nat) (cs : Array Value) (h : Blk W g 121 cs) => (own_blk_ne hown h (by decide)).symm
    have hfst : (wordsOf t l pre).1.isEmpty = decide ((wordsOf t l pre).1.length = 0) := by cases (wordsOf t l pre).1 <;> simp
    by_cases hgap : gapIs (wordsOf t l pre).1.isEmpty x = true
    · have hmk : mkW t l (wordsOf t l pre).1.isEmpty x = ⟨x.fr, x.up, cutF (advs t (part l x)).sum, cutF (adv t 32), x.ends⟩ := by simp [mkW, hgap]
      have hov : overW t l (wordsOf t l pre).1.isEmpty x = (cutB (advs t (part l x)).sum || cutB (adv t 32)) := by simp [overW, hgap]
      have HM : Hid (wdCells (mkW t l (wordsOf t l pre).1.isEmpty x) = [.int .i64 x.fr, .int .i64 x.up, .int .i64 (cutF (advs t (part l x)).sum), .int .i64 (cutF (adv t 32)), .int .i64 x.ends]) := Lib.hid (by rw [hmk]; rfl)
      have hg3 : x.sp = true ∧ ((x.ends : Int) == 0) = true ∧ 0 < (wordsOf t l pre).1.length := by
        rw [hfst] at hgap
        simp only [gapIs, Bool.and_eq_true, decide_eq_true_eq, Bool.not_eq_true', decide_eq_false_iff_not] at hgap
        exact ⟨hgap.1.1, by simp [hgap.1.2], by omega⟩
      obtain ⟨ob, hob⟩ : ∃ ob, cutB (advs t (part l x)).sum = ob := ⟨_, rfl⟩
      obtain ⟨fb, hfb⟩ : ∃ fb, (wordsOf t l pre).2 = fb := ⟨_, rfl⟩
      obtain ⟨wb, hwb⟩ : ∃ wb, cutB (adv t 32) = wb := ⟨_, rfl⟩
      have HF : Hid (∀ nb, nb = (fb || (ob || wb)) → nb = ((wordsOf t l pre).2 || overW t l (wordsOf t l pre).1.isEmpty x)) := Lib.hid (by rintro nb rfl; rw [hov, hob, hfb, hwb])
      rw [hfb] at z1 hfar hfar1
      rw [hwb] at z3
      obtain ⟨hsp, he, hz⟩ := hg3
      rw [hsp] at y3
      have hz' : decide (0 < (wordsOf t l pre).1.length) = true := by simp; omega
      clear hmk hov hgap hfst hb1 hS hsp
      cases ob <;> cases fb <;> cases wb
      all_goals
        gi_wp2_with (gi_at_builtin; refine wpListIn_app (m := 1) rfl _ _ rfl el_word (HOWN.out _ _) (by simp [World.setCell]; omega) rfl [_, _, _, _, _] rfl (by simp [World.setCell]) (by simp) (by simp [Value.oneCell']) (by omega) (by omega) ?_; intro A' c' w' hown' hB hg _; have hv2 := ((hv1.far (p := ⟨w.heap.size + 1 + 1 + 1, 0, none⟩) (by simp) _).alloc _).grown hg (HNR.out _ _ hv); have v2 := hv2.c1; have f2 := hv2.frozen)
        exact HI.out.step hb hv (by omega) hown (by rw [HM.out]; exact hown') hg (HF.out _ rfl)
    · have hmk : mkW t l (wordsOf t l pre).1.isEmpty x = ⟨x.fr, x.up, cutF (advs t (part l x)).sum, 0, x.ends⟩ := by simp [mkW, hgap]
      have hov : overW t l (wordsOf t l pre).1.isEmpty x = cutB (advs t (part l x)).sum := by simp [overW, hgap]
      have HM : Hid (wdCells (mkW t l (wordsOf t l pre).1.isEmpty x) = [.int .i64 x.fr, .int .i64 x.up, .int .i64 (cutF (advs t (part l x)).sum), .int .i64 0, .int .i64 x.ends]) := Lib.hid (by rw [hmk]; rfl)
      have hg3 : x.sp = false ∨ x.sp = true ∧ ((x.ends : Int) == 0) = false ∨ x.sp = true ∧ ((x.ends : Int) == 0) = true ∧ (wordsOf t l pre).1.length = 0 := by
        rw [hfst] at hgap
        cases hsp : x.sp
        · exact .inl rfl
        · simp only [gapIs, hsp, Bool.true_and, Bool.and_eq_true, decide_eq_true_eq, Bool.not_eq_true', decide_eq_false_iff_not] at hgap
          by_cases h0 : x.ends = 0
          · exact .inr (.inr ⟨rfl, by simp [h0], by omega⟩)
          · exact .inr (.inl ⟨rfl, by simp [h0]⟩)
      obtain ⟨ob, hob⟩ : ∃ ob, cutB (advs t (part l x)).sum = ob := ⟨_, rfl⟩
      obtain ⟨fb, hfb⟩ : ∃ fb, (wordsOf t l pre).2 = fb := ⟨_, rfl⟩
      have HF : Hid (∀ nb, nb = (fb || ob) → nb = ((wordsOf t l pre).2 || overW t l (wordsOf t l pre).1.isEmpty x)) := Lib.hid (by rintro nb rfl; rw [hov, hob, hfb])
      rw [hfb] at z1 hfar hfar1
      clear hmk hov hgap hfst hb1 hS
      rcases hg3 with hsp | ⟨hsp, he⟩ | ⟨hsp, he, hz⟩
      · rw [hsp] at y3
        clear hsp
        cases ob <;> cases fb
        all_goals
          gi_wp2_with (gi_at_builtin; refine wpListIn_app (m := 1) rfl _ _ rfl el_word (HOWN.out _ _) (by simp [World.setCell]; omega) rfl [_, _, _, _, _] rfl (by simp [World.setCell]) (by simp) (by simp [Value.oneCell']) (by omega) (by omega) ?_; intro A' c' w' hown' hB hg _; have hv2 := ((hv1.far (p := ⟨w.heap.size + 1 + 1 + 1, 0, none⟩) (by simp) _).alloc _).grown hg (HNR.out _ _ hv); have v2 := hv2.c1; have f2 := hv2.frozen)
          exact HI.out.step hb hv (by omega) hown (by rw [HM.out]; exact hown') hg (HF.out _ rfl)
      · rw [hsp] at y3
        clear hsp
        cases ob <;> cases fb
        all_goals
          gi_wp2_with (gi_at_builtin; refine wpListIn_app (m := 1) rfl _ _ rfl el_word (HOWN.out _ _) (by simp [World.setCell]; omega) rfl [_, _, _, _, _] rfl (by simp [World.setCell]) (by simp) (by simp [Value.oneCell']) (by omega) (by omega) ?_; intro A' c' w' hown' hB hg _; have hv2 := ((hv1.far (p := ⟨w.heap.size + 1 + 1 + 1, 0, none⟩) (by simp) _).alloc _).grown hg (HNR.out _ _ hv); have v2 := hv2.c1; have f2 := hv2.frozen)
          exact HI.out.step hb hv (by omega) hown (by rw [HM.out]; exact hown') hg (HF.out _ rfl)
      · rw [hsp] at y3
        have hz' : decide (0 < (wordsOf t l pre).1.length) = false := decide_eq_false (by omega)
        clear hsp hz
        cases ob <;> cases fb
        all_goals
          gi_wp2_with (gi_at_builtin; refine wpListIn_app (m := 1) rfl _ _ rfl el_word (HOWN.out _ _) (by simp [World.setCell]; omega) rfl [_, _, _, _, _] rfl (by simp [World.setCell]) (by simp) (by simp [Value.oneCell']) (by omega) (by omega) ?_; intro A' c' w' hown' hB hg _; have hv2 := ((hv1.far (p := ⟨w.heap.size + 1 + 1 + 1, 0, none⟩) (by simp) _).alloc _).grown hg (HNR.out _ _ hv); have v2 := hv2.c1; have f2 := hv2.frozen)
          exact HI.out.step hb hv (by omega) hown (by rw [HM.out]; exact hown') hg (HF.out _ rfl)
  · intro D W hD hi hK
    obtain ⟨⟨v, hv, hown⟩, hfar, hun, had, hgp, hwd, hit, hold⟩ := hi
    have q1 := hv.lt
    have q2 := hfar.lt
    obtain ⟨Av, cv, rfl⟩ := own_form hown
    obtain ⟨fb, hfb⟩ : ∃ fb, (wordsOf t l (spansF l)).2 = fb := ⟨_, rfl⟩
    have hmix : Try.prog.follows .mixedOrders = true := by kernel_rfl
    have HFB := Lib.hid hfb
    rw [hfb] at hfar
    clear hfb
    have v0 := hv.c1
    have f0 := hfar.c1
    have g0 := hv.frozen
    have g1 := hfar.frozen
    gi_wp2
    gi_region_o
    generalize hX : World.drew (World.setCell (World.setCell _ _ _) _ _) = X
    have hv' : Blk X (w.heap.size + 1 + 1) 121 #[.slice Av (wordsOf t l (spansF l)).1.length cv] := by
      rw [← hX]; exact ((hv.set_ 0 _).far (p := ⟨w.heap.size + 1 + 1 + 1, 0, none⟩) (by simp) _).drew
    have hf' : Blk X (w.heap.size + 1 + 1 + 1) 4 #[.bool fb] := by
      rw [← hX]; exact ((hfar.far (p := ⟨w.heap.size + 1 + 1, 0, none⟩) (by simp) _).set_ 0 _).drew
    have ho' : X.ownsRow w.heap.size 146 5 (.slice Av (wordsOf t l (spansF l)).1.length cv) (wordsOf t l (spansF l)).1.length (wdsCells (wordsOf t l (spansF l)).1) := by
      have h1 := hown.kept (w' := W.setCell ⟨w.heap.size + 1 + 1, 0, none⟩ (.slice Av (wordsOf t l (spansF l)).1.length cv)) (row := some (w.heap.size + 1 + 1)) ⟨rfl, rfl, rfl, by simp [World.setCell], fun k _ hne => Below.heap_setCell _ _ _ _ (fun e => hne (by rw [e]))⟩ (.inr (own_blk_ne hown hv (by decide)))
      have h2 := h1.kept (w' := ((W.setCell ⟨w.heap.size + 1 + 1, 0, none⟩ (.slice Av (wordsOf t l (spansF l)).1.length cv)).setCell ⟨w.heap.size + 1 + 1 + 1, 0, none⟩ (.bool fb)).drew) (row := some (w.heap.size + 1 + 1 + 1)) ⟨rfl, rfl, rfl, by simp [World.setCell, World.drew], fun k _ hne => Below.heap_setCell _ _ _ _ (fun e => hne (by rw [e]))⟩
        (.inr (own_blk_ne hown hfar (by decide)))
      rw [← hX]; exact h2
    have hD' : X.heap[D]? = some (.deferred (some [])) := by
      have hs0 := HS0.out
      rw [← hX]
      exact (Below.heap_setCell _ ⟨w.heap.size + 1 + 1 + 1, 0, none⟩ _ D (by show D ≠ w.heap.size + 1 + 1 + 1; omega)).trans ((Below.heap_setCell _ ⟨w.heap.size + 1 + 1, 0, none⟩ _ D (by show D ≠ w.heap.size + 1 + 1; omega)).trans hK)
    have hb' : Below w.heap.size w X := by
      rw [← hX]
      exact ((hold.setCell (p := ⟨w.heap.size + 1 + 1, 0, none⟩) (by simp; omega) _).setCell (p := ⟨w.heap.size + 1 + 1 + 1, 0, none⟩) (by simp; omega) _).drew
    clear hX v0 f0 g0 g1
    gi_wp2
    refine ⟨by simp, .inl ⟨_, _, rfl, run_takeDeferred hD', ?_⟩⟩
    have hne1 : w.heap.size + 1 + 1 ≠ D := by have hs0 := HS0.out; omega
    have hne2 : w.heap.size + 1 + 1 + 1 ≠ D := by have hs0 := HS0.out; omega
    have z0 := Blk.c1 (w := X.putObj D (.deferred none)) ((World.putObj_heap_other hne1).trans hv')
    have z1 := Blk.c1 (w := X.putObj D (.deferred none)) ((World.putObj_heap_other hne2).trans hf')
    refine ⟨.tuple #[.slice Av (wordsOf t l (spansF l)).1.length cv, .bool fb], ?_, .slice Av (wordsOf t l (spansF l)).1.length cv, ?_, ?_, ?_⟩
    · simp [results, Try.results93, go_sem, z0, z1]
    · rw [← HFB.out]; rfl
    · exact ownsRow_putObj ho' _ hD' rfl
    · exact hb'.trans (belowK_b (w := W0) (by have hs0 := HS0.out; omega) X D (.deferred (some [])) _ hD hD' rfl rfl)
end Go.Proofs.Ytbopeofglhkffaa
namespace Go.Proofs.Ytbopeofglhkffaa
open Go.RowKit
attribute [local go_sem] block_of_add
theorem own_zero {w : World} {base n c size : Nat} {e : TypeId} {A : Option Addr} {xs : List Value} (h : w.ownsRow base e size (.slice A n c) n xs) : w.ownsRow base e size (.slice A 0 c) 0 [] := by
  rcases h.2 with ⟨hv, _⟩ | ⟨g, cap, cur, hv, hb, hh, _, hm, hs, _⟩
  · injection hv with h1 h2 h3
    subst h1; subst h3
    exact World.ownsRow_nil _ _ _ _
  · injection hv with h1 h2 h3
    subst h1; subst h3
    exact ⟨by simp, .inr ⟨g, c, cur, rfl, hb, hh, Nat.zero_le _, hm, hs, by simp⟩⟩
theorem done_fin {W : World} {R G F base : Nat} {A : Option Addr} {n c : Nat} {g m : Int} {b ob : Bool} (hR : Blk W R 23 #[.slice A n c]) (hG : Blk W G 2 #[.int .i64 g]) (hF : Blk W F 4 #[.bool b]) (hO : W.ownsRow base 2 1 (.slice A 0 c) 0 [])
    (hRG : R ≠ G) (hRF : R ≠ F) (hGF : G ≠ F) (hOG : (Value.slice A 0 c).ownBlock ≠ some G) (w0 : World) (hb : Below base w0 W) (ho : ∀ k, k < w0.heap.size → W.heap[k]? = w0.heap[k]?) (hbR : base ≤ R) (hbG : base ≤ G) (hbF : base ≤ F) :
    Blk (((W.setCell ⟨G, 0, none⟩ (.int .i64 m)).setCell ⟨F, 0, none⟩ (.bool ob)).setCell ⟨R, 0, none⟩ (.slice A 0 c)) R 23 #[.slice A 0 c] ∧
    Blk (((W.setCell ⟨G, 0, none⟩ (.int .i64 m)).setCell ⟨F, 0, none⟩ (.bool ob)).setCell ⟨R, 0, none⟩ (.slice A 0 c)) G 2 #[.int .i64 m] ∧
    Blk (((W.setCell ⟨G, 0, none⟩ (.int .i64 m)).setCell ⟨F, 0, none⟩ (.bool ob)).setCell ⟨R, 0, none⟩ (.slice A 0 c)) F 4 #[.bool ob] ∧
    (((W.setCell ⟨G, 0, none⟩ (.int .i64 m)).setCell ⟨F, 0, none⟩ (.bool ob)).setCell ⟨R, 0, none⟩ (.slice A 0 c)).ownsRow base 2 1 (.slice A 0 c) 0 [] ∧
    Below base w0 (((W.setCell ⟨G, 0, none⟩ (.int .i64 m)).setCell ⟨F, 0, none⟩ (.bool ob)).setCell ⟨R, 0, none⟩ (.slice A 0 c)) ∧
    (∀ k, k < w0.heap.size → k ≠ R → k ≠ G → k ≠ F → (((W.setCell ⟨G, 0, none⟩ (.int .i64 m)).setCell ⟨F, 0, none⟩ (.bool ob)).setCell ⟨R, 0, none⟩ (.slice A 0 c)).heap[k]? = w0.heap[k]?) := by
  have hR2 : Blk ((W.setCell ⟨G, 0, none⟩ (.int .i64 m)).setCell ⟨F, 0, none⟩ (.bool ob)) R 23 #[.slice A n c] := (hR.far (p := ⟨G, 0, none⟩) hRG _).far (p := ⟨F, 0, none⟩) hRF _
  have hG2 : Blk (W.setCell ⟨G, 0, none⟩ (.int .i64 m)) G 2 #[.int .i64 m] := hG.set_ 0 _
  have hF2 : Blk ((W.setCell ⟨G, 0, none⟩ (.int .i64 m)).setCell ⟨F, 0, none⟩ (.bool ob)) F 4 #[.bool ob] := (hF.far (p := ⟨G, 0, none⟩) hGF.symm _).set_ 0 _
  have own : ∀ {w : World} {p : Nat} {u : Value}, w.ownsRow base 2 1 (.slice A 0 c) 0 [] → (Value.slice A 0 c).ownBlock ≠ some p → (w.setCell ⟨p, 0, none⟩ u).ownsRow base 2 1 (.slice A 0 c) 0 [] := fun {w p u} h hp =>
    h.kept (w' := w.setCell ⟨p, 0, none⟩ u) (row := some p) ⟨rfl, rfl, rfl, by simp [World.setCell], fun k _ hne => Below.heap_setCell _ _ _ _ (fun e => hne (by rw [e]))⟩ (.inr hp)
  refine ⟨hR2.set_ 0 _, (hG2.far (p := ⟨F, 0, none⟩) hGF _).far (p := ⟨R, 0, none⟩) hRG.symm _, hF2.far (p := ⟨R, 0, none⟩) hRF.symm _, ?_, ((hb.setCell (p := ⟨G, 0, none⟩) hbG _).setCell (p := ⟨F, 0, none⟩) hbF _).setCell (p := ⟨R, 0, none⟩) hbR _, fun k hk h1 h2 h3 => (Below.heap_setCell _ ⟨R, 0, none⟩ _ k h1).trans ((Below.heap_setCell _ ⟨F, 0, none⟩ _ k h3).trans ((Below.heap_setCell _ ⟨G, 0, none⟩ _ k h2).trans (ho k hk)))⟩
  exact own (own (own hO hOG) (own_blk_ne hO hF (by decide))) (own_blk_ne hO hR (by decide))
set_option maxRecDepth 100000 in
set_option maxHeartbeats 2000000 in
theorem done_any (rl : List Int) (A : Option Addr) (c : Nat) (g : Int) (b : Bool) (R G F base : Nat) (w : World) (hrl : I64s rl) (hn : rl.length ≤ 4611686018427387904)
    (hr : Blk w R 23 #[.slice A rl.length c]) (hg : Blk w G 2 #[.int .i64 g]) (hf : Blk w F 4 #[.bool b]) (hown : w.ownsRow base 2 1 (.slice A rl.length c) rl.length (i64s rl))
    (hbR : base ≤ R) (hbG : base ≤ G) (hbF : base ≤ F) (hOG : (Value.slice A 0 c).ownBlock ≠ some G) :
    Calls Try.prog 94 #[.pointer (some ⟨R, 0, none⟩), .pointer (some ⟨G, 0, none⟩), .pointer (some ⟨F, 0, none⟩)] w fun e w' => (∃ v, e = .returned v) ∧ Blk w' R 23 #[.slice A 0 c] ∧ Blk w' G 2 #[.int .i64 (max g (cutF rl.sum))] ∧ Blk w' F 4 #[.bool (b || cutB rl.sum)] ∧
      w'.ownsRow base 2 1 (.slice A 0 c) 0 [] ∧ Below base w w' ∧ (∀ k, k < w.heap.size → k ≠ R → k ≠ G → k ≠ F → w'.heap[k]? = w.heap[k]?) := by
  have hRG := hr.ne_ hg (by decide)
  have hRF := hr.ne_ hf (by decide)
  have hGF := hg.ne_ hf (by decide)
  have hRG' := hRG.symm
  have hRF' := hRF.symm
  have hGF' := hGF.symm
  have r0 := hr.c1
  have HC := Lib.hid (sum_any rl A c w hrl hn (Reads.of_own hown))
  have hlr := hr.lt
  have hlg := hg.lt
  have hlf := hf.lt
  have hcap := own_cap hown
  go_enter Try.func94, Try.ntmps94
  go_wp2_with fail
  refine HC.out.mono ?_
  rintro e W ⟨rfl, hB⟩
  have hR := hr.below hB hlr
  have hG := hg.below hB hlg
  have hF := hf.below hB hlf
  have hO := own_zero (own_below hown hB)
  have R0 := hR.c1
  have G0 := hG.c1
  have F0 := hF.c1
  have Rf := hR.frozen
  have Gf := hG.frozen
  have Ff := hF.frozen
  have hlR := hR.lt
  clear r0 hr hg hf
  obtain ⟨ob, hob⟩ : ∃ ob, cutB rl.sum = ob := ⟨_, rfl⟩
  obtain ⟨n, hnn⟩ : ∃ n, cutF rl.sum = n := ⟨_, rfl⟩
  simp only [hob, hnn]
  have HOB := Lib.hid hob
  have HNN := Lib.hid hnn
  clear hob hnn
  have hbase : base ≤ w.heap.size := by omega
  have HFIN := Lib.hid fun (m : Int) (o : Bool) => done_fin (m := m) (ob := o) hR hG hF hO hRG hRF hGF hOG w ((Below.refl _ _).trans (hB.mono hbase)) hB.block hbR hbG hbF
  cases b <;> cases ob
  all_goals
    go_wp2_with fail
    all_goals
      go_end0
      refine ⟨⟨_, rfl⟩, ?_⟩
      rw [HNN.out]
      try rw [HOB.out]
      first
        | (rw [Int.max_eq_right (by omega)]; exact HFIN.out _ _)
        | (rw [Int.max_eq_left (by omega)]; exact HFIN.out _ _)
end Go.Proofs.Ytbopeofglhkffaa
