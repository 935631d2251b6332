/- Items of a row: hold, clamped, holdSome. -/
import Derived.Test.YtbopeofglhkffaaItc
import Derived.Test.YtbopeofglhkffaaWs
set_option linter.unusedSimpArgs false
set_option linter.unusedVariables false
namespace Go.Proofs.Ytbopeofglhkffaa
open Go.RowKit
attribute [local go_sem] block_of_add run_store_hi run_store_lo
theorem Its.upd {n : Nat} {B : Nat → Nat} {M : Nat → It} {w w' : World} (h : Its n B M w) {k : Nat} (hk : k < n) {y : It} (hb : Blk w' (B k) 89 (itCells y).toArray) (ho : ∀ j, j < n → j ≠ k → Blk w' (B j) 89 (itCells (M j)).toArray) : Its n B (fun j => if j = k then y else M j) w' :=
  ⟨fun j hj => by
    by_cases e : j = k
    · subst e; simp only [if_true]; exact hb
    · simp only [if_neg e]; exact ho j hj e, h.inj⟩
/-- One item is turned. -/
structure Turn (g : Nat) (y : It) (w w' : World) : Prop where
  b : Blk w' g 89 (itCells y).toArray
  k : Kp (fun x => x = g) w w'
theorem Turn.its {n : Nat} {B : Nat → Nat} {M : Nat → It} {w w' : World} {k : Nat} {y : It} (h : Turn (B k) y w w') (hi : Its n B M w) (hk : k < n) : Its n B (fun j => if j = k then y else M j) w' :=
  hi.upd hk h.b fun j hj hne => (hi.b j hj).kp h.k fun e => hne (hi.inj j k hj hk e)
theorem Turn.kp {n : Nat} {B : Nat → Nat} {w w' : World} {k : Nat} {y : It} (h : Turn (B k) y w w') (hk : k < n) : Kp (isB n B) w w' := h.k.mono fun x e => ⟨k, hk, e⟩
/-- A slice of items' pointers that can be read; its block is no item's. -/
structure PtrAt (w : World) (n : Nat) (B : Nat → Nat) (A : Option Addr) (ks : List Nat) : Prop where
  rd : Reads w w.heap.size 1 A ks.length (ptrC B ks)
  ne : ∀ ad, A = some ad → ¬ isB n B ad.block
theorem PtrAt.kp {w w' : World} {n : Nat} {B : Nat → Nat} {A : Option Addr} {ks : List Nat} (h : PtrAt w n B A ks) (hk : Kp (isB n B) w w') : PtrAt w' n B A ks :=
  ⟨⟨h.rd.1, fun h0 => by
    obtain ⟨ad, e, hb, hc⟩ := h.rd.2 h0
    exact ⟨ad, e, Nat.lt_of_lt_of_le hb hk.size, fun j u hu => (hk.cell (p := ad.add j) (by rw [block_of_add]; exact hb) (by rw [block_of_add]; exact h.ne ad e)).trans (hc j u hu)⟩⟩, h.ne⟩
theorem PtrAt.bel {w w' : World} {n : Nat} {B : Nat → Nat} {A : Option Addr} {ks : List Nat} (h : PtrAt w n B A ks) (hk : Below w.heap.size w w') : PtrAt w' n B A ks := h.kp (Kp.of_below hk _)
theorem PtrAt.at_ {w : World} {n : Nat} {B : Nat → Nat} {A : Option Addr} {ks : List Nat} (h : PtrAt w n B A ks) {i : Nat} (hi : i < ks.length) : ∃ ad, A = some ad ∧ w.cell? (ad.add i) = some (.pointer (some ⟨B ks[i], 0, none⟩)) := by
  obtain ⟨ad, u, e, _, hx, hc⟩ := h.rd.at_ hi
  have hu : u = .pointer (some ⟨B ks[i], 0, none⟩) := by simpa [ptrC, hi] using hx.symm
  exact ⟨ad, e, hu ▸ hc⟩
set_option maxRecDepth 100000 in
set_option maxHeartbeats 1000000 in
theorem hold_any (g : Nat) (x : It) (z : Int) (w : World) (hb : Blk w g 89 (itCells x).toArray) :
    Calls Try.prog 63 #[.pointer (some ⟨g, 0, none⟩), .agg #[hiOf z, loOf z]] w fun e w' => e = .returned (.tuple #[]) ∧ Turn g { x with held := true, width := z } w w' := by
  have hlt := hb.lt
  have hne : w.heap.size ≠ g := by omega
  have q1 := hb.get 56 (it_held x)
  have q2 := hb.frozen 56
  have q3 := hb.get 54 (it_widthh x)
  have q4 := hb.get 55 (it_widthl x)
  have q5 := hb.frozen 54
  have q6 := hb.frozen 55
  have HB := Lib.hid hb
  clear hb
  go_enter Try.func63, Try.ntmps63
  go_wp2_with fail
  go_end0
  refine ⟨rfl, ?_, ?_⟩
  · have h1 : Blk (w.setCell ⟨g, 56, none⟩ (.bool true)) g 89 (itCells { x with held := true }).toArray := HB.out.it_set 56 _ rfl
    have h2 := h1.it_set2 (y := { x with held := true, width := z }) 54 (hiOf z) (loOf z) rfl
    exact h2.alloc _
  · have k0 : Kp (fun x => x = g) w (w.setCell ⟨g, 56, none⟩ (.bool true)) := Kp.setCell (bad := fun x => x = g) (Kp.refl _ w) (p := ⟨g, 56, none⟩) (.inl rfl) _
    have k1 := k0.setCell (p := ⟨g, 54, none⟩) (.inl rfl) (hiOf z)
    have k2 := k1.setCell (p := ⟨g, 55, none⟩) (.inl rfl) (loOf z)
    exact k2.alloc _
theorem it_rng {W : World} {g : Nat} {x : It} (hb : Blk W g 89 (itCells x).toArray) : W.rangeAt g 0 (styCells x.s) := blk_rng hb fun j v hv => by
  have hj := (List.getElem?_eq_some_iff.1 hv).1
  unfold itCells
  rw [Nat.zero_add, List.getElem?_append_left hj]; exact hv
/-- What is asked of an item whose aim is clamped. -/
structure AimB (x : It) : Prop where
  maxw : LnM x.s.maxw
  minw : LnM x.s.minw
  c : CB x.c
  aim : -9223372036854775808 ≤ x.aim ∧ x.aim ≤ 9223372036854775807
theorem clW_bd {x : It} (h : AimB x) : 0 ≤ clW x ∧ clW x ≤ 9223372036854775807 := by
  have b1 := res_bd h.maxw h.c
  have b2 := res_bd h.minw h.c
  have ha := h.aim
  unfold clW clampF
  dsimp only
  cases (resF x.s.maxw x.c).2 <;> cases (resF x.s.minw x.c).2 <;> simp only [Bool.false_eq_true, if_true, if_false] <;> omega
theorem numF_in {a : Int} (h : -9223372036854775808 ≤ a ∧ a ≤ 9223372036854775807) : numF a = a := by
  unfold numF; rw [if_neg (by omega), if_neg (by omega)]
structure ClI (g g2 : Nat) (x : It) (w W : World) : Prop where
  it : Blk W g 89 (itCells x).toArray
  r : Blk W g2 87 #[.int .i64 0, .int .u64 0]
  b : Below g2 w W
theorem ClI.bel {g g2 : Nat} {x : It} {w W W' : World} (h : ClI g g2 x w W) (hb : Below W.heap.size W W') : ClI g g2 x w W' := ⟨h.it.below hb h.it.lt, h.r.below hb h.r.lt, h.b.trans (hb.mono (Nat.le_of_lt h.r.lt))⟩
set_option maxRecDepth 100000 in
set_option maxHeartbeats 2000000 in
theorem clamped_any (g : Nat) (x : It) (w : World) (hb : Blk w g 89 (itCells x).toArray) (hx : AimB x) :
    Calls Try.prog 92 #[.pointer (some ⟨g, 0, none⟩)] w (AnsB (.agg #[hiOf (clW x), loOf (clW x)]) w) := by
  have hn := numF_in hx.aim
  have HNUM : Hid (∀ W, Calls Try.prog 41 #[.agg #[hiOf x.aim, loOf x.aim]] W fun e w' => e = .returned (.int .i64 x.aim) ∧ Below W.heap.size W w') := Lib.hid fun W => by
    have := number_any x.aim W
    rw [hn] at this; exact this
  have RC := Lib.hid (fun W => clamp_b W x.s x.c x.aim hx.maxw hx.minw hx.c)
  have hcl := clW_bd hx
  obtain ⟨cl, hce⟩ : ∃ cl, cl = clW x := ⟨_, rfl⟩
  rw [show clampF x.s x.c x.aim = clW x from rfl, ← hce] at RC
  rw [← hce] at hcl ⊢
  clear hce hn hx
  have HB := Lib.hid hb
  clear hb
  go_enter Try.func92, Try.ntmps92
  go_upto_region 1 with (fail)
  have H0 : Hid (ClI g w.heap.size x w (w.alloc (.cells #[.int .i64 0, .int .u64 0] 87))) := Lib.hid ⟨HB.out.alloc _, Blk.new _ _ _, bal (Below.refl _ _) _⟩
  obtain ⟨w1, hw1⟩ : ∃ w1, w1 = w.alloc (.cells #[.int .i64 0, .int .u64 0] 87) := ⟨_, rfl⟩
  rw [← hw1] at H0 ⊢
  obtain ⟨g2, hg2⟩ : ∃ g2, g2 = w.heap.size := ⟨_, rfl⟩
  rw [← hg2] at H0 ⊢
  have HG := Lib.hid hg2
  clear hw1 hg2
  have q1 := H0.out.it.get 52 (it_aimh x)
  have q2 := H0.out.it.get 53 (it_aiml x)
  go_upto_region 2 with (go_at_call 41; refine (HNUM.out _).mono ?_; rintro e w2 ⟨rfl, hb2⟩; have H2 := Lib.hid (H0.out.bel hb2); clear hb2 q1 q2)
  have E0 : ClI g g2 x w w2.drew := H2.out.bel (Below.refl _ _).drew
  refine wp_region_S (fun _ _ _ W => ClI g g2 x w W) 1000 1000 100000 true true (by kernel_rfl) (by kernel_rfl) (by kernel_rfl) (E0) ?_
  refine wpAnyS_pre (j := 0) (by kernel_rfl) ?_
  iterate 3
    refine wpAnyS_nx (v := ?_) rfl (by kernel_rfl) (by kernel_rfl) (by kernel_rfl) (fun _ _ _ h => h) (by rfl) (gives_pure (by rfl) ?_) ?_
    rotate_left
    · intro b' d' u' W' hS'
      have h1 := hS'.it.get 43 (it_c x)
      go_simp
      rfl
    try simp only [Act.put, List.setIfInBounds_toArray, List.set_cons_zero, List.set_cons_succ, List.getElem_toArray, List.getElem_cons_zero, List.getElem_cons_succ]
  refine wpAnyS_take (i := 3) (v := .agg (styCells x.s).toArray) rfl (by kernel_rfl) (by kernel_rfl) (by kernel_rfl) (fun _ _ _ h => h) (by rfl) (gives_yields ?_) ?_
  · refine yieldsIf_load_mid (by rfl) 52 (.tmp 12) rfl (g) 0 rfl (styCells x.s) _ ?_ Try.underlying52 rfl (by kernel_rfl)
    rintro W' ⟨b', d', u', hS'⟩
    exact it_rng hS'.it
  try simp only [Act.put, List.setIfInBounds_toArray, List.set_cons_zero, List.set_cons_succ, List.getElem_toArray, List.getElem_cons_zero, List.getElem_cons_succ]
  refine wpAnyS_pre (j := 4) (by kernel_rfl) ?_
  iterate 5
    refine wpAnyS_nx (v := ?_) rfl (by kernel_rfl) (by kernel_rfl) (by kernel_rfl) (fun _ _ _ h => h) (by rfl) (gives_pure (by rfl) ?_) ?_
    rotate_left
    · intro b' d' u' W' hS'
      have h1 := hS'.it.get 43 (it_c x)
      go_simp
      rfl
    try simp only [Act.put, List.setIfInBounds_toArray, List.set_cons_zero, List.set_cons_succ, List.getElem_toArray, List.getElem_cons_zero, List.getElem_cons_succ]
  refine wpAnyS_take (i := 9) (v := _) rfl (by kernel_rfl) (by kernel_rfl) (by kernel_rfl) (fun _ _ _ h => h) (by rfl) (gives_call (by rfl) _ _ ?_ (fun b' d' u' W' hS' => (RC.out W').mono fun e W2 ⟨he, hb⟩ => ⟨he, hS'.bel hb⟩)) ?_
  · intro W'
    first | rfl | kernel_rfl
  try simp only [Act.put, List.setIfInBounds_toArray, List.set_cons_zero, List.set_cons_succ, List.getElem_toArray, List.getElem_cons_zero, List.getElem_cons_succ]
  refine wpAnyS_take (i := 10) (v := ?_) rfl (by kernel_rfl) (by kernel_rfl) (by kernel_rfl) (fun _ _ _ h => h) (by rfl) (gives_pure (by rfl) ?_) ?_
  rotate_left
  · intro b' d' u' W' hS'
    have h1 := hS'.it.get 43 (it_c x)
    go_simp
    rfl
  try simp only [Act.put, List.setIfInBounds_toArray, List.set_cons_zero, List.set_cons_succ, List.getElem_toArray, List.getElem_cons_zero, List.getElem_cons_succ]
  refine wpAnyS_done (b := true) (d := true) (by kernel_rfl) (by kernel_rfl) (by kernel_rfl) rfl (fun wS hS => ?_) _
  have H3 := Lib.hid hS
  clear hS E0
  have q1 := H3.out.r.get 0 (v := .int .i64 0) rfl
  have q2 := H3.out.r.get 1 (v := .int .u64 0) rfl
  have q3 := H3.out.r.frozen 0
  have q4 := H3.out.r.frozen 1
  have z1 := H3.out.r.lt
  have z2 : g2 < wS.heap.size + 1 := by omega
  by_cases he : cl = x.aim
  · have e1 : (cl == x.aim) = true := beq_iff_eq.2 he
    have HE := Lib.hid he
    clear he
    have q5 := H3.out.it.get 52 (it_aimh x)
    have q6 := H3.out.it.get 53 (it_aiml x)
    go_wp2_with fail
    refine bodyPost_ret (results_cell_row rfl _ _ g2 87 #[_, _] (0, 0) _ rfl ((H3.out.r.set_ 0 _).set_ 1 _) Try.underlying87 rfl (by kernel_rfl)) rfl ?_
    rw [HE.out]
    refine ⟨rfl, ?_⟩
    rw [← HG.out]
    exact (H3.out.b.setCell (p := ⟨g2, 0, none⟩) (Nat.le_refl _) _).setCell (p := ⟨g2, 1, none⟩) (Nat.le_refl _) _
  · have e1 : (cl == x.aim) = false := beq_eq_false_iff_ne.2 he
    clear he
    go_wp2_with (go_at_call 58; refine (of_b _ cl (by omega) (by omega)).mono ?_; rintro e w3 ⟨rfl, hb3⟩; have H4 := Lib.hid (H3.out.bel hb3); clear hb3 q1 q2 q3 q4; have q1 := H4.out.r.get 0 (v := .int .i64 0) rfl; have q2 := H4.out.r.get 1 (v := .int .u64 0) rfl; have q3 := H4.out.r.frozen 0; have q4 := H4.out.r.frozen 1)
    refine bodyPost_ret (results_cell_row rfl _ _ g2 87 #[_, _] (0, 0) _ rfl ((H4.out.r.set_ 0 _).set_ 1 _) Try.underlying87 rfl (by kernel_rfl)) rfl ?_
    refine ⟨rfl, ?_⟩
    rw [← HG.out]
    exact (H4.out.b.setCell (p := ⟨g2, 0, none⟩) (Nat.le_refl _) _).setCell (p := ⟨g2, 1, none⟩) (Nat.le_refl _) _
/-! holdSome. -/
def turnsK (M : Nat → It) (oth : List Nat) (i : Nat) : Int := ((oth.take i).map fun k => clW (M k) - (M k).aim).sum
theorem turnsK_succ (M : Nat → It) (oth : List Nat) (i : Nat) (h : i < oth.length) : turnsK M oth (i + 1) = turnsK M oth i + (clW (M oth[i]) - (M oth[i]).aim) := by
  unfold turnsK; rw [List.take_succ_eq_append_getElem h, List.map_append, List.sum_append]; simp
theorem turnsK_bd (M : Nat → It) (oth : List Nat) (h : ∀ k ∈ oth, AimB (M k)) : ∀ i, i ≤ oth.length → -(18446744073709551616 * (i : Int)) ≤ turnsK M oth i ∧ turnsK M oth i ≤ 18446744073709551616 * i
  | 0, _ => by simp [turnsK]
  | i + 1, hi => by
    have ih := turnsK_bd M oth h i (by omega)
    have hb := h oth[i] (List.getElem_mem (by omega))
    have hc := clW_bd hb
    have ha := hb.aim
    rw [turnsK_succ M oth i (by omega)]
    omega
def heldK (M : Nat → It) (way : Int) (oth : List Nat) (i : Nat) : Nat → It := fun k => if k ∈ oth.take i then holdI way (M k) else M k
theorem heldK_succ (M : Nat → It) (way : Int) (oth : List Nat) (i : Nat) (h : i < oth.length) : heldK M way oth (i + 1) = fun k => if k = oth[i] then holdI way (M k) else heldK M way oth i k := by
  funext k
  unfold heldK
  have e : k ∈ oth.take (i + 1) ↔ k = oth[i] ∨ k ∈ oth.take i := by
    rw [List.take_succ_eq_append_getElem h, List.mem_append, List.mem_singleton]
    exact Or.comm
  by_cases h1 : k = oth[i]
  · rw [if_pos (e.2 (.inl h1)), if_pos h1]
  · rw [if_neg h1]
    by_cases h2 : k ∈ oth.take i
    · rw [if_pos (e.2 (.inr h2)), if_pos h2]
    · rw [if_neg (fun h3 => (e.1 h3).elim h1 h2), if_neg h2]
theorem not_mem_take {l : List Nat} (hd : l.Nodup) {i : Nat} (h : i < l.length) : l[i] ∉ l.take i := fun hm => by
  obtain ⟨j, hj, e⟩ := List.getElem_of_mem hm
  rw [List.getElem_take] at e
  rw [List.length_take] at hj
  have := (List.pairwise_iff_getElem.1 hd) j i (by omega) h (by omega)
  exact this e
structure HsI (N n : Nat) (B : Nat → Nat) (M : Nat → It) (z : Int) (w W : World) : Prop where
  a : Blk W N 87 #[hiOf z, loOf z]
  its : Its n B M W
  b : Below N w W
  lt : ∀ k, k < n → B k < N
theorem HsI.bel {N n : Nat} {B : Nat → Nat} {M : Nat → It} {z : Int} {w W W' : World} (h : HsI N n B M z w W) (hb : Below W.heap.size W W') : HsI N n B M z w W' :=
  ⟨h.a.below hb h.a.lt, h.its.bel hb, h.b.trans (hb.mono (Nat.le_of_lt h.a.lt)), h.lt⟩
theorem HsI.put {N n : Nat} {B : Nat → Nat} {M : Nat → It} {z y : Int} {w W : World} (h : HsI N n B M z w W) : HsI N n B M y w ((W.setCell ⟨N, 0, none⟩ (hiOf y)).setCell ⟨N, 1, none⟩ (loOf y)) :=
  ⟨(h.a.set_ 0 _).set_ 1 _, ⟨fun k hk => ((h.its.b k hk).far (by have := h.lt k hk; show B k ≠ N; omega) _).far (by have := h.lt k hk; show B k ≠ N; omega) _, h.its.inj⟩, (h.b.setCell (p := ⟨N, 0, none⟩) (Nat.le_refl _) _).setCell (p := ⟨N, 1, none⟩) (Nat.le_refl _) _, h.lt⟩
structure HvI (g8 kk n : Nat) (B : Nat → Nat) (M : Nat → It) (x : It) (cl : Int) (w W : World) : Prop where
  c : Blk W g8 87 #[hiOf cl, loOf cl]
  its : Its n B M W
  x : Blk W (B kk) 89 (itCells x).toArray
  k : Kp (isB n B) w W
theorem HvI.bel {g8 kk n : Nat} {B : Nat → Nat} {M : Nat → It} {x : It} {cl : Int} {w W W' : World} (h : HvI g8 kk n B M x cl w W) (hb : Below W.heap.size W W') : HvI g8 kk n B M x cl w W' :=
  ⟨h.c.below hb h.c.lt, h.its.bel hb, h.x.below hb h.x.lt, h.k.trans (Kp.of_below hb _)⟩
set_option maxRecDepth 100000 in
set_option maxHeartbeats 2000000 in
theorem holdSome_any (n : Nat) (B : Nat → Nat) (M : Nat → It) (oth : List Nat) (A : Option Addr) (ca : Nat) (w : World) (hm : oth.length ≤ 100000) (hd : oth.Nodup) (ho : ∀ k ∈ oth, k < n) (hp : PtrAt w n B A oth) (hi : Its n B M w) (hb : ∀ k ∈ oth, AimB (M k)) :
    Calls Try.prog 65 #[.slice A oth.length ca] w fun e w' => e = .returned (.tuple #[]) ∧ Its n B (holdM M oth) w' ∧ Kp (isB n B) w w' := by
  have HP := Lib.hid hp
  have HI := Lib.hid hi
  have HAB := Lib.hid hb
  have HO := Lib.hid ho
  have HD := Lib.hid hd
  have HTB := Lib.hid (turnsK_bd M oth hb)
  clear hp hi hb ho hd
  obtain ⟨m, hme⟩ : ∃ m, m = oth.length := ⟨_, rfl⟩
  rw [← hme] at hm ⊢
  have HM := Lib.hid hme
  clear hme
  go_enter Try.func65, Try.ntmps65
  go_wp2_with fail
  go_loopw [11] (fun kv wr => ∃ i : Nat, i ≤ m ∧ kv = .int .i64 i ∧ Hid (HsI w.heap.size n B M (turnsK M oth i) w wr)) (fun kv _ => m - (intOf kv).toNat)
  case atStart => exact ⟨0, by omega, rfl, Lib.hid ⟨Blk.new _ _ _, HI.out.bel (bal (Below.refl _ _) _), bal (Below.refl _ _) _, fun k hk => (HI.out.b k hk).lt⟩⟩
  case round =>
    obtain ⟨i, hi, rfl, HH⟩ := hrel
    by_cases hlt : i < m
    · have g0 : decide ((i : Int) < (m : Int)) = true := decide_eq_true (by omega)
      have g0' : decide (i < m) = true := decide_eq_true hlt
      have hki : (i : Int) < (m : Int) := by omega
      have hk0 : (0 : Int) ≤ (i : Int) := by omega
      have wk : IntKind.i64.wrap ((i : Int) + 1) = (i : Int) + 1 := IntWalk.i64_in _ ⟨by omega, by omega⟩
      have hil : i < oth.length := by rw [← HM.out]; exact hlt
      obtain ⟨ad, rfl, hc⟩ := (HP.out.kp (Kp.of_below HH.out.b _)).at_ hil
      obtain ⟨kk, hkk⟩ : ∃ kk, kk = oth[i] := ⟨_, rfl⟩
      rw [← hkk] at hc
      have hmem : kk ∈ oth := by rw [hkk]; exact List.getElem_mem hil
      have hkn := HO.out kk hmem
      have hab := HAB.out kk hmem
      have hcb := clW_bd hab
      have hac := hab.aim
      have HABK := Lib.hid hab
      have htb := HTB.out i (by omega)
      have HTS : Hid (turnsK M oth (i + 1) = turnsK M oth i + (clW (M kk) - (M kk).aim)) := Lib.hid (by rw [turnsK_succ M oth i hil, ← hkk])
      have HKK := Lib.hid hkk
      clear hkk hab
      go_upto_region 4 with (fail)
      clear hc
      obtain ⟨z, hz⟩ : ∃ z, z = turnsK M oth i := ⟨_, rfl⟩
      obtain ⟨cl, hcl⟩ : ∃ cl, cl = clW (M kk) := ⟨_, rfl⟩
      obtain ⟨am, ham⟩ : ∃ am, am = (M kk).aim := ⟨_, rfl⟩
      rw [← hz] at HH htb HTS
      rw [← hcl] at hcb HTS
      rw [← ham] at hac HTS
      have HZ := Lib.hid (And.intro hz (And.intro hcl ham))
      clear hz hcl ham
      have w1 : W128 (cl - am) := ⟨by omega, by omega⟩
      have w2 : W128 (z + (cl - am)) := ⟨by omega, by omega⟩
      have E0 : HsI w.heap.size n B M z w wr.drew := HH.out.bel (Below.refl _ _).drew
      refine wp_region_S (fun b _ _ W => HsI w.heap.size n B M (if b then z + (cl - am) else z) w W) 9 1000 100000 false true (by kernel_rfl) (by kernel_rfl) (by kernel_rfl) (E0) ?_
      refine wpAnyS_pre (j := 0) (by kernel_rfl) ?_
      iterate 2
        refine wpAnyS_nx (v := ?_) rfl (by kernel_rfl) (by kernel_rfl) (by kernel_rfl) (fun _ _ _ h => h) (by rfl) (gives_pureF (by rfl) (by kernel_rfl) ?_) ?_
        rotate_left
        · intro d' u' W' hS'
          have h1 : W'.cell? ⟨w.heap.size, 0, none⟩ = some (hiOf z) := hS'.a.get 0 rfl
          have h2 : W'.cell? ⟨w.heap.size, 1, none⟩ = some (loOf z) := hS'.a.get 1 rfl
          have h3 := (hS'.its.b kk hkn).get 52 (it_aimh _)
          have h4 := (hS'.its.b kk hkn).get 53 (it_aiml _)
          rw [← HZ.out.2.2] at h3 h4
          go_simp
          rfl
        try simp only [Act.put, List.setIfInBounds_toArray, List.set_cons_zero, List.set_cons_succ, List.getElem_toArray, List.getElem_cons_zero, List.getElem_cons_succ]
      refine wpAnyS_take (i := 2) (v := _) rfl (by kernel_rfl) (by kernel_rfl) (by kernel_rfl) (fun _ _ _ h => h) (by rfl) (gives_callF (by rfl) (by kernel_rfl) _ _ ?_ (fun d' u' W' hS' => (HZ.out.2.1 ▸ clamped_any (B kk) (M kk) W' (hS'.its.b kk hkn) HABK.out).mono fun e W2 ⟨he, hb⟩ => ⟨he, hS'.bel hb⟩)) ?_
      · intro W'
        first | rfl | kernel_rfl
      try simp only [Act.put, List.setIfInBounds_toArray, List.set_cons_zero, List.set_cons_succ, List.getElem_toArray, List.getElem_cons_zero, List.getElem_cons_succ]
      refine wpAnyS_pre (j := 3) (by kernel_rfl) ?_
      iterate 4
        refine wpAnyS_nx (v := ?_) rfl (by kernel_rfl) (by kernel_rfl) (by kernel_rfl) (fun _ _ _ h => h) (by rfl) (gives_pureF (by rfl) (by kernel_rfl) ?_) ?_
        rotate_left
        · intro d' u' W' hS'
          have h1 : W'.cell? ⟨w.heap.size, 0, none⟩ = some (hiOf z) := hS'.a.get 0 rfl
          have h2 : W'.cell? ⟨w.heap.size, 1, none⟩ = some (loOf z) := hS'.a.get 1 rfl
          have h3 := (hS'.its.b kk hkn).get 52 (it_aimh _)
          have h4 := (hS'.its.b kk hkn).get 53 (it_aiml _)
          rw [← HZ.out.2.2] at h3 h4
          go_simp
          rfl
        try simp only [Act.put, List.setIfInBounds_toArray, List.set_cons_zero, List.set_cons_succ, List.getElem_toArray, List.getElem_cons_zero, List.getElem_cons_succ]
      refine wpAnyS_take (i := 7) (v := _) rfl (by kernel_rfl) (by kernel_rfl) (by kernel_rfl) (fun _ _ _ h => h) (by rfl) (gives_callF (by rfl) (by kernel_rfl) _ _ ?_ (fun d' u' W' hS' => (minus_b W' cl am w1).mono fun e W2 ⟨he, hb⟩ => ⟨he, hS'.bel hb⟩)) ?_
      · intro W'
        first | rfl | kernel_rfl
      try simp only [Act.put, List.setIfInBounds_toArray, List.set_cons_zero, List.set_cons_succ, List.getElem_toArray, List.getElem_cons_zero, List.getElem_cons_succ]
      refine wpAnyS_take (i := 8) (v := _) rfl (by kernel_rfl) (by kernel_rfl) (by kernel_rfl) (fun _ _ _ h => h) (by rfl) (gives_callF (by rfl) (by kernel_rfl) _ _ ?_ (fun d' u' W' hS' => (plus_b W' z (cl - am) w2).mono fun e W2 ⟨he, hb⟩ => ⟨he, hS'.bel hb⟩)) ?_
      · intro W'
        first | rfl | kernel_rfl
      try simp only [Act.put, List.setIfInBounds_toArray, List.set_cons_zero, List.set_cons_succ, List.getElem_toArray, List.getElem_cons_zero, List.getElem_cons_succ]
      refine wpAnyS_store (i := 9) (d := true) (fun W' => (W'.setCell ⟨w.heap.size, 0, none⟩ (hiOf (z + (cl - am)))).setCell ⟨w.heap.size, 1, none⟩ (loOf (z + (cl - am)))) rfl (by kernel_rfl) (by rfl) (by rfl) (by kernel_rfl) rfl ?_ (fun W' hS' => hS'.put) ?_
      · intro W' hS'
        have h1 : W'.cell? ⟨w.heap.size, 0, none⟩ = some (hiOf z) := hS'.a.get 0 rfl
        have h2 : W'.cell? ⟨w.heap.size, 1, none⟩ = some (loOf z) := hS'.a.get 1 rfl
        have q3 := hS'.a.frozen 0
        have q4 := hS'.a.frozen 1
        go_simp
        try rfl
      try simp only [Act.put, List.setIfInBounds_toArray, List.set_cons_zero, List.set_cons_succ, List.getElem_toArray, List.getElem_cons_zero, List.getElem_cons_succ]
      refine wpAnyS_done (b := true) (d := true) (by kernel_rfl) (by kernel_rfl) (by kernel_rfl) rfl (fun wS hS => ?_) _
      have HF := Lib.hid (show HsI w.heap.size n B M (z + (cl - am)) w wS from hS)
      rw [← HTS.out] at HF
      clear hS E0 w1 w2
      go_wp2_with fail
      go_roundw
      case rel => exact ⟨i + 1, by omega, by go_num, HF⟩
      case measure => simp [intOf] <;> omega
    · have g0 : decide ((i : Int) < (m : Int)) = false := decide_eq_false (by omega)
      have g0' : decide (i < m) = false := decide_eq_false hlt
      have hkn : i = m := by omega
      rw [hkn] at HH
      have HW : Hid (cmpI (turnsK M oth m) 0 = wayM M oth) := Lib.hid (by
        unfold wayM sumM turnsK; rw [HM.out, List.take_length])
      clear hkn hlt
      have q1 := HH.out.a.get 0 (v := hiOf (turnsK M oth m)) rfl
      have q2 := HH.out.a.get 1 (v := loOf (turnsK M oth m)) rfl
      go_upto_region 7 with (go_at_call 62; refine (sign_any _ _).mono ?_; rintro e w3 ⟨rfl, hw3⟩; have H3 := Lib.hid (HH.out.bel (hw3 ▸ bal (bal (bal (Below.refl _ _) _) _) _)); clear hw3 q1 q2)
      rw [HW.out]
      obtain ⟨way, hway⟩ : ∃ way, way = wayM M oth := ⟨_, rfl⟩
      rw [← hway]
      have HWY := Lib.hid hway
      have HS0 : Hid (Its n B (heldK M way oth 0) w3 ∧ Kp (isB n B) w w3) := Lib.hid ⟨H3.out.its.congr fun k _ => by simp [heldK], Kp.of_below H3.out.b _⟩
      clear hway H3
      go_wp2_with fail
      go_loopw [29] (fun kv wx => ∃ i : Nat, i ≤ m ∧ kv = .int .i64 i ∧ Hid (Its n B (heldK M way oth i) wx ∧ Kp (isB n B) w wx)) (fun kv _ => m - (intOf kv).toNat)
      case atStart => exact ⟨0, by omega, rfl, HS0⟩
      case round =>
        obtain ⟨i, hi, rfl, HX⟩ := hrel
        by_cases hlt : i < m
        · have g0 : decide ((i : Int) < (m : Int)) = true := decide_eq_true (by omega)
          have g0' : decide (i < m) = true := decide_eq_true hlt
          have hki : (i : Int) < (m : Int) := by omega
          have hk0 : (0 : Int) ≤ (i : Int) := by omega
          have wk : IntKind.i64.wrap ((i : Int) + 1) = (i : Int) + 1 := IntWalk.i64_in _ ⟨by omega, by omega⟩
          have hil : i < oth.length := by rw [← HM.out]; exact hlt
          obtain ⟨ad, rfl, hc⟩ := (HP.out.kp HX.out.2).at_ hil
          obtain ⟨kk, hkk⟩ : ∃ kk, kk = oth[i] := ⟨_, rfl⟩
          rw [← hkk] at hc
          have hmem : kk ∈ oth := by rw [hkk]; exact List.getElem_mem hil
          have hkn := HO.out kk hmem
          have HABK := Lib.hid (HAB.out kk hmem)
          have HMK : Hid (heldK M way oth i kk = M kk) := Lib.hid (by unfold heldK; rw [if_neg (by rw [hkk]; exact not_mem_take HD.out hil)])
          have HSC : Hid (heldK M way oth (i + 1) = fun k => if k = kk then holdI way (M k) else heldK M way oth i k) := Lib.hid (by rw [heldK_succ M way oth i hil, hkk])
          obtain ⟨x, hx⟩ : ∃ x, x = M kk := ⟨_, rfl⟩
          have HXB : Hid (Blk wr (B kk) 89 (itCells x).toArray) := Lib.hid (by have := HX.out.1.b kk hkn; rw [HMK.out, ← hx] at this; exact this)
          have HXX := Lib.hid hx
          rw [← hx] at HABK
          clear hkk hx
          obtain ⟨cl, hcl⟩ : ∃ cl, cl = clW x := ⟨_, rfl⟩
          have HCL := Lib.hid (hcl ▸ clamped_any (B kk) x wr HXB.out HABK.out : Calls Try.prog 92 #[.pointer (some ⟨B kk, 0, none⟩)] wr (AnsB (.agg #[hiOf cl, loOf cl]) wr))
          have HCE := Lib.hid hcl
          clear hcl
          go_upto_region 11 with (go_at_call 92; refine HCL.out.mono ?_; rintro e w4 ⟨rfl, hb4⟩; have HB4 := Lib.hid hb4; clear hb4)
          clear hc
          have HV0 : Hid (HvI w4.heap.size kk n B (heldK M way oth i) x cl w (w4.alloc (.cells #[hiOf cl, loOf cl] 87))) := Lib.hid
            ⟨Blk.new _ _ _, (HX.out.1.bel HB4.out).bel (bal (Below.refl _ _) _), (HXB.out.below HB4.out HXB.out.lt).alloc _, HX.out.2.trans ((Kp.of_below HB4.out _).alloc _)⟩
          obtain ⟨w5, hw5⟩ : ∃ w5, w5 = w4.alloc (.cells #[hiOf cl, loOf cl] 87) := ⟨_, rfl⟩
          obtain ⟨g8, hg8⟩ : ∃ g8, g8 = w4.heap.size := ⟨_, rfl⟩
          rw [← hg8] at HV0 ⊢
          rw [← hw5] at HV0 ⊢
          clear hg8 hw5
          have E0 : HvI g8 kk n B (heldK M way oth i) x cl w w5.drew := HV0.out.bel (Below.refl _ _).drew
          by_cases hw0 : way = 0
          · have e0 : (way == 0) = true := beq_iff_eq.2 hw0
            have HHI : Hid (holdI way x = { x with held := true, width := cl }) := Lib.hid (by unfold holdI; rw [if_pos (.inl hw0), HCE.out])
            clear hw0
            refine wp_region_S (fun _ _ _ W => HvI g8 kk n B (heldK M way oth i) x cl w W) 1000 1000 100000 true true (by kernel_rfl) (by kernel_rfl) (by kernel_rfl) (E0) ?_
            refine wpAnyS_pre (j := 0) (by kernel_rfl) ?_
            iterate 3
              refine wpAnyS_nx (v := ?_) rfl (by kernel_rfl) (by kernel_rfl) (by kernel_rfl) (fun _ _ _ h => h) (by rfl) (gives_pure (by rfl) ?_) ?_
              rotate_left
              · intro b' d' u' W' hS'
                have h1 := hS'.c.get 0 (v := hiOf cl) rfl
                have h2 := hS'.c.get 1 (v := loOf cl) rfl
                have h3 := hS'.x.get 52 (it_aimh x)
                have h4 := hS'.x.get 53 (it_aiml x)
                go_simp
                rfl
              try simp only [Act.put, List.setIfInBounds_toArray, List.set_cons_zero, List.set_cons_succ, List.getElem_toArray, List.getElem_cons_zero, List.getElem_cons_succ]
            refine wpAnyS_take (i := 3) (v := undef) rfl (by kernel_rfl) (by kernel_rfl) (by kernel_rfl) (fun _ _ _ h => h) (by rfl) (gives_unwanted (by rfl)) ?_
            try simp only [Act.put, List.setIfInBounds_toArray, List.set_cons_zero, List.set_cons_succ, List.getElem_toArray, List.getElem_cons_zero, List.getElem_cons_succ]
            refine wpAnyS_take (i := 4) (v := undef) rfl (by kernel_rfl) (by kernel_rfl) (by kernel_rfl) (fun _ _ _ h => h) (by rfl) (gives_unwanted (by rfl)) ?_
            try simp only [Act.put, List.setIfInBounds_toArray, List.set_cons_zero, List.set_cons_succ, List.getElem_toArray, List.getElem_cons_zero, List.getElem_cons_succ]
            refine wpAnyS_take (i := 5) (v := undef) rfl (by kernel_rfl) (by kernel_rfl) (by kernel_rfl) (fun _ _ _ h => h) (by rfl) (gives_unwanted (by rfl)) ?_
            try simp only [Act.put, List.setIfInBounds_toArray, List.set_cons_zero, List.set_cons_succ, List.getElem_toArray, List.getElem_cons_zero, List.getElem_cons_succ]
            refine wpAnyS_take (i := 6) (v := undef) rfl (by kernel_rfl) (by kernel_rfl) (by kernel_rfl) (fun _ _ _ h => h) (by rfl) (gives_unwanted (by rfl)) ?_
            try simp only [Act.put, List.setIfInBounds_toArray, List.set_cons_zero, List.set_cons_succ, List.getElem_toArray, List.getElem_cons_zero, List.getElem_cons_succ]
            refine wpAnyS_take (i := 7) (v := undef) rfl (by kernel_rfl) (by kernel_rfl) (by kernel_rfl) (fun _ _ _ h => h) (by rfl) (gives_unwanted (by rfl)) ?_
            try simp only [Act.put, List.setIfInBounds_toArray, List.set_cons_zero, List.set_cons_succ, List.getElem_toArray, List.getElem_cons_zero, List.getElem_cons_succ]
            refine wpAnyS_take (i := 8) (v := undef) rfl (by kernel_rfl) (by kernel_rfl) (by kernel_rfl) (fun _ _ _ h => h) (by rfl) (gives_unwanted (by rfl)) ?_
            try simp only [Act.put, List.setIfInBounds_toArray, List.set_cons_zero, List.set_cons_succ, List.getElem_toArray, List.getElem_cons_zero, List.getElem_cons_succ]
            refine wpAnyS_take (i := 9) (v := undef) rfl (by kernel_rfl) (by kernel_rfl) (by kernel_rfl) (fun _ _ _ h => h) (by rfl) (gives_unwanted (by rfl)) ?_
            try simp only [Act.put, List.setIfInBounds_toArray, List.set_cons_zero, List.set_cons_succ, List.getElem_toArray, List.getElem_cons_zero, List.getElem_cons_succ]
            refine wpAnyS_take (i := 10) (v := undef) rfl (by kernel_rfl) (by kernel_rfl) (by kernel_rfl) (fun _ _ _ h => h) (by rfl) (gives_unwanted (by rfl)) ?_
            try simp only [Act.put, List.setIfInBounds_toArray, List.set_cons_zero, List.set_cons_succ, List.getElem_toArray, List.getElem_cons_zero, List.getElem_cons_succ]
            refine wpAnyS_take (i := 11) (v := ?_) rfl (by kernel_rfl) (by kernel_rfl) (by kernel_rfl) (fun _ _ _ h => h) (by rfl) (gives_pure (by rfl) ?_) ?_
            rotate_left
            · intro b' d' u' W' hS'
              have h1 := hS'.c.get 0 (v := hiOf cl) rfl
              have h2 := hS'.c.get 1 (v := loOf cl) rfl
              have h3 := hS'.x.get 52 (it_aimh x)
              have h4 := hS'.x.get 53 (it_aiml x)
              go_simp
              rfl
            try simp only [Act.put, List.setIfInBounds_toArray, List.set_cons_zero, List.set_cons_succ, List.getElem_toArray, List.getElem_cons_zero, List.getElem_cons_succ]
            refine wpAnyS_done (b := true) (d := true) (by kernel_rfl) (by kernel_rfl) (by kernel_rfl) rfl (fun wS hS => ?_) _
            have HF := Lib.hid hS
            clear hS E0
            have q1 := HF.out.c.get 0 (v := hiOf cl) rfl
            have q2 := HF.out.c.get 1 (v := loOf cl) rfl
            go_wp2_with (go_at_call 63; refine (hold_any (B kk) x cl _ HF.out.x).mono ?_; rintro e w6 ⟨rfl, ht⟩; have HT := Lib.hid ht; clear ht q1 q2)
            go_roundw
            case rel =>
              refine ⟨i + 1, by omega, by go_num, Lib.hid ⟨?_, HF.out.k.trans (HT.out.kp hkn)⟩⟩
              rw [HSC.out]
              refine (HT.out.its HF.out.its hkn).congr fun k hk => ?_
              by_cases e : k = kk
              · rw [if_pos e, if_pos e, e, ← HXX.out, HHI.out]
              · rw [if_neg e, if_neg e]
            case measure => simp [intOf] <;> omega
          · have e0 : (way == 0) = false := beq_eq_false_iff_ne.2 hw0
            by_cases hw1 : cmpI cl x.aim = way
            · have e1 : (cmpI cl x.aim == way) = true := beq_iff_eq.2 hw1
              have HHI : Hid (holdI way x = { x with held := true, width := cl }) := Lib.hid (by unfold holdI; rw [if_pos (.inr (by rw [← HCE.out]; exact hw1)), HCE.out])
              clear hw0 hw1
              refine wp_region_S (fun _ _ _ W => HvI g8 kk n B (heldK M way oth i) x cl w W) 1000 1000 100000 true true (by kernel_rfl) (by kernel_rfl) (by kernel_rfl) (E0) ?_
              refine wpAnyS_pre (j := 0) (by kernel_rfl) ?_
              iterate 8
                refine wpAnyS_nx (v := ?_) rfl (by kernel_rfl) (by kernel_rfl) (by kernel_rfl) (fun _ _ _ h => h) (by rfl) (gives_pure (by rfl) ?_) ?_
                rotate_left
                · intro b' d' u' W' hS'
                  have h1 := hS'.c.get 0 (v := hiOf cl) rfl
                  have h2 := hS'.c.get 1 (v := loOf cl) rfl
                  have h3 := hS'.x.get 52 (it_aimh x)
                  have h4 := hS'.x.get 53 (it_aiml x)
                  go_simp
                  rfl
                try simp only [Act.put, List.setIfInBounds_toArray, List.set_cons_zero, List.set_cons_succ, List.getElem_toArray, List.getElem_cons_zero, List.getElem_cons_succ]
              refine wpAnyS_take (i := 8) (v := _) rfl (by kernel_rfl) (by kernel_rfl) (by kernel_rfl) (fun _ _ _ h => h) (by rfl) (gives_call (by rfl) _ _ ?_ (fun b' d' u' W' hS' => (against_b W' cl x.aim).mono fun e W2 ⟨he, hb⟩ => ⟨he, hS'.bel hb⟩)) ?_
              · intro W'
                first | rfl | kernel_rfl
              try simp only [Act.put, List.setIfInBounds_toArray, List.set_cons_zero, List.set_cons_succ, List.getElem_toArray, List.getElem_cons_zero, List.getElem_cons_succ]
              refine wpAnyS_pre (j := 9) (by kernel_rfl) ?_
              iterate 3
                refine wpAnyS_nx (v := ?_) rfl (by kernel_rfl) (by kernel_rfl) (by kernel_rfl) (fun _ _ _ h => h) (by rfl) (gives_pure (by rfl) ?_) ?_
                rotate_left
                · intro b' d' u' W' hS'
                  have h1 := hS'.c.get 0 (v := hiOf cl) rfl
                  have h2 := hS'.c.get 1 (v := loOf cl) rfl
                  have h3 := hS'.x.get 52 (it_aimh x)
                  have h4 := hS'.x.get 53 (it_aiml x)
                  go_simp
                  rfl
                try simp only [Act.put, List.setIfInBounds_toArray, List.set_cons_zero, List.set_cons_succ, List.getElem_toArray, List.getElem_cons_zero, List.getElem_cons_succ]
              refine wpAnyS_done (b := true) (d := true) (by kernel_rfl) (by kernel_rfl) (by kernel_rfl) rfl (fun wS hS => ?_) _
              have HF := Lib.hid hS
              clear hS E0
              have q1 := HF.out.c.get 0 (v := hiOf cl) rfl
              have q2 := HF.out.c.get 1 (v := loOf cl) rfl
              go_wp2_with (go_at_call 63; refine (hold_any (B kk) x cl _ HF.out.x).mono ?_; rintro e w6 ⟨rfl, ht⟩; have HT := Lib.hid ht; clear ht q1 q2)
              go_roundw
              case rel =>
                refine ⟨i + 1, by omega, by go_num, Lib.hid ⟨?_, HF.out.k.trans (HT.out.kp hkn)⟩⟩
                rw [HSC.out]
                refine (HT.out.its HF.out.its hkn).congr fun k hk => ?_
                by_cases e : k = kk
                · rw [if_pos e, if_pos e, e, ← HXX.out, HHI.out]
                · rw [if_neg e, if_neg e]
              case measure => simp [intOf] <;> omega
            · have e1 : (cmpI cl x.aim == way) = false := beq_eq_false_iff_ne.2 hw1
              have HHI : Hid (holdI way x = x) := Lib.hid (by unfold holdI; rw [if_neg (fun h => h.elim hw0 (by rw [← HCE.out]; exact hw1))])
              clear hw0 hw1
              refine wp_region_S (fun _ _ _ W => HvI g8 kk n B (heldK M way oth i) x cl w W) 1000 1000 100000 true true (by kernel_rfl) (by kernel_rfl) (by kernel_rfl) (E0) ?_
              refine wpAnyS_pre (j := 0) (by kernel_rfl) ?_
              iterate 8
                refine wpAnyS_nx (v := ?_) rfl (by kernel_rfl) (by kernel_rfl) (by kernel_rfl) (fun _ _ _ h => h) (by rfl) (gives_pure (by rfl) ?_) ?_
                rotate_left
                · intro b' d' u' W' hS'
                  have h1 := hS'.c.get 0 (v := hiOf cl) rfl
                  have h2 := hS'.c.get 1 (v := loOf cl) rfl
                  have h3 := hS'.x.get 52 (it_aimh x)
                  have h4 := hS'.x.get 53 (it_aiml x)
                  go_simp
                  rfl
                try simp only [Act.put, List.setIfInBounds_toArray, List.set_cons_zero, List.set_cons_succ, List.getElem_toArray, List.getElem_cons_zero, List.getElem_cons_succ]
              refine wpAnyS_take (i := 8) (v := _) rfl (by kernel_rfl) (by kernel_rfl) (by kernel_rfl) (fun _ _ _ h => h) (by rfl) (gives_call (by rfl) _ _ ?_ (fun b' d' u' W' hS' => (against_b W' cl x.aim).mono fun e W2 ⟨he, hb⟩ => ⟨he, hS'.bel hb⟩)) ?_
              · intro W'
                first | rfl | kernel_rfl
              try simp only [Act.put, List.setIfInBounds_toArray, List.set_cons_zero, List.set_cons_succ, List.getElem_toArray, List.getElem_cons_zero, List.getElem_cons_succ]
              refine wpAnyS_pre (j := 9) (by kernel_rfl) ?_
              iterate 3
                refine wpAnyS_nx (v := ?_) rfl (by kernel_rfl) (by kernel_rfl) (by kernel_rfl) (fun _ _ _ h => h) (by rfl) (gives_pure (by rfl) ?_) ?_
                rotate_left
                · intro b' d' u' W' hS'
                  have h1 := hS'.c.get 0 (v := hiOf cl) rfl
                  have h2 := hS'.c.get 1 (v := loOf cl) rfl
                  have h3 := hS'.x.get 52 (it_aimh x)
                  have h4 := hS'.x.get 53 (it_aiml x)
                  go_simp
                  rfl
                try simp only [Act.put, List.setIfInBounds_toArray, List.set_cons_zero, List.set_cons_succ, List.getElem_toArray, List.getElem_cons_zero, List.getElem_cons_succ]
              refine wpAnyS_done (b := true) (d := true) (by kernel_rfl) (by kernel_rfl) (by kernel_rfl) rfl (fun wS hS => ?_) _
              have HF := Lib.hid hS
              clear hS E0
              go_wp2_with fail
              go_roundw
              case rel =>
                refine ⟨i + 1, by omega, by go_num, Lib.hid ⟨?_, HF.out.k⟩⟩
                rw [HSC.out]
                refine HF.out.its.congr fun k hk => ?_
                by_cases e : k = kk
                · rw [if_pos e, e, HMK.out, ← HXX.out, HHI.out]
                · rw [if_neg e]
              case measure => simp [intOf] <;> omega
        · have g0 : decide ((i : Int) < (m : Int)) = false := decide_eq_false (by omega)
          have g0' : decide (i < m) = false := decide_eq_false hlt
          have hkn : i = m := by omega
          rw [hkn] at HX
          have HE : Hid (heldK M way oth m = holdM M oth) := Lib.hid (by
            funext k; unfold heldK holdM; rw [HM.out, List.take_length, HWY.out])
          clear hkn hlt
          go_wp2_with fail
          go_end0
          rw [HE.out] at HX
          exact ⟨rfl, HX.out⟩
end Go.Proofs.Ytbopeofglhkffaa
