/- The contract of text.Extent. -/
import Derived.Test.YtbopeofglhkffaaDone
set_option linter.unusedSimpArgs false
set_option linter.unusedVariables false
namespace Go.Proofs.Ytbopeofglhkffaa
open Go.RowKit
attribute [local go_sem] block_of_add
/-- Between two rounds. -/
structure EI (w : World) (l : List Wd) (k : Nat) (rl : List Int) (A : Option Addr) (c : Nat) (W : World) : Prop where
  row : Blk W (w.heap.size + 1 + 1) 23 #[.slice A rl.length c]
  great : Blk W w.heap.size 2 #[.int .i64 (exAt l k).great]
  far : Blk W (w.heap.size + 1) 4 #[.bool (exAt l k).far]
  own : W.ownsRow w.heap.size 2 1 (.slice A rl.length c) rl.length (i64s rl)
  b64 : I64s rl
  len : rl.length ≤ 2 * k
  sum : rl.sum = (exAt l k).row
  ne : (Value.slice A rl.length c).ownBlock ≠ some w.heap.size
  old : Below w.heap.size w W
theorem wpList_appg2 {P : Program} {w : World} {o : Oper} {a : Act} {t e : TypeId} {z : Value} {size bytes base n m : Nat} {v : Value} {xs : List Value} {ops : Array Oper} {rest : List Oper} {Q : Exit → Act → World → Prop} (hgd : o.guard = none) (s x : Operand)
    (ho : o.op = .call { callee := .builtin .append, args := #[s, x], argTypes := #[t, t] }) (hE : El P t e z size bytes) (hown : w.ownsRow base e size v n xs) (hbase : base ≤ w.heap.size) (hs : a.eval s = v)
    (news : List Value) {g : Nat} (hx : a.eval x = .slice (some ⟨g, 0, none⟩) m m) (hgs : g = w.heap.size) (hl : news.length = m * size) (h1 : ∀ u ∈ news, u.oneCell' = true) (h63 : n + m ≤ 4294967296) (hby : bytes ≤ 32768)
    (h : ∀ A' c' w', w'.ownsRow base e size (.slice A' (n + m) c') (n + m) (xs ++ news) → (∀ B w0, B ≤ base → Below B w0 w → Below B w0 w') → w.grownBy w' v.ownBlock →
      ((Value.slice A' (n + m) c').ownBlock = v.ownBlock ∨ w.heap.size ≤ ((Value.slice A' (n + m) c').ownBlock).getD w.heap.size) → wpList P ops Q rest (a.put o.dst (.slice A' (n + m) c')) w') :
    wpList P ops Q (o :: rest) a (w.alloc (.cells news.toArray e)) := by
  subst hgs
  exact wpList_app hgd s x ho hE hown hbase hs news hx hl h1 h63 hby h
theorem ownBlock_any (A : Option Addr) (n m c : Nat) : (Value.slice A n c).ownBlock = (Value.slice A m c).ownBlock := by cases A <;> rfl
theorem row_ne {W : World} {b n c : Nat} {A : Option Addr} {xs : List Value} {g : Nat} {t : TypeId} {cs : Array Value} (h : W.ownsRow b 2 1 (.slice A n c) n xs) (hg : Blk W g t cs) (ht : 2 ≠ t) : some g ≠ (Value.slice A n c).ownBlock := (own_blk_ne h hg ht).symm
theorem EI.put {w : World} {l : List Wd} {k c c' m : Nat} {rl news : List Int} {A A' : Option Addr} {W w' : World} {gr : Int} {fa : Bool}
    (hrow : Blk W (w.heap.size + 1 + 1) 23 #[.slice A rl.length c]) (hgr : Blk W w.heap.size 2 #[.int .i64 gr]) (hfa : Blk W (w.heap.size + 1) 4 #[.bool fa])
    (hown : W.ownsRow w.heap.size 2 1 (.slice A rl.length c) rl.length (i64s rl)) (hne : (Value.slice A rl.length c).ownBlock ≠ some w.heap.size) (hw : Below w.heap.size w W)
    (hown' : w'.ownsRow w.heap.size 2 1 (.slice A' (rl.length + m) c') (rl.length + m) (i64s rl ++ i64s news)) (hm : news.length = m)
    (hB : ∀ B w0, B ≤ w.heap.size → Below B w0 W → Below B w0 w') (hg : W.grownBy w' (Value.slice A rl.length c).ownBlock)
    (hob : (Value.slice A' (rl.length + m) c').ownBlock = (Value.slice A rl.length c).ownBlock ∨ W.heap.size ≤ ((Value.slice A' (rl.length + m) c').ownBlock).getD W.heap.size)
    (hE : (exAt l (k + 1)).great = gr ∧ (exAt l (k + 1)).far = fa ∧ (exAt l (k + 1)).row = (rl ++ news).sum) (h1 : I64s rl) (h2 : I64s news) (hl : (rl ++ news).length ≤ 2 * (k + 1)) :
    EI w l (k + 1) (rl ++ news) A' c' (w'.setCell ⟨w.heap.size + 1 + 1, 0, none⟩ (.slice A' (rl.length + m) c')) := by
  subst hm
  have hlt := hgr.lt
  have r1 := hrow.grown hg (row_ne hown hrow (by decide))
  have hln : (rl ++ news).length = rl.length + news.length := List.length_append
  have hii : i64s (rl ++ news) = i64s rl ++ i64s news := by simp [i64s]
  refine ⟨?_, ?_, ?_, ?_, ?_, hl, hE.2.2.symm, ?_, (hB _ _ (Nat.le_refl _) hw).setCell (p := ⟨w.heap.size + 1 + 1, 0, none⟩) (by simp; omega) _⟩
  · rw [hln]; exact r1.set_ 0 _
  · rw [hE.1]; exact (hgr.grown hg (fun e => hne e.symm)).far (p := ⟨w.heap.size + 1 + 1, 0, none⟩) (by simp; omega) _
  · rw [hE.2.1]; exact (hfa.grown hg (row_ne hown hfa (by decide))).far (p := ⟨w.heap.size + 1 + 1, 0, none⟩) (by simp) _
  · rw [hln, hii]
    exact hown'.kept (row := some (w.heap.size + 1 + 1)) ⟨rfl, rfl, rfl, by simp [World.setCell], fun k _ hne => Below.heap_setCell _ _ _ _ (fun e => hne (by rw [e]))⟩ (.inr (own_blk_ne hown' r1 (by decide)))
  · intro v hv
    rcases List.mem_append.1 hv with hv | hv
    · exact h1 v hv
    · exact h2 v hv
  · rw [hln]
    intro e
    rcases hob with h | h
    · exact hne (h.symm.trans e)
    · rw [e] at h; simp at h; omega
set_option maxRecDepth 100000 in
set_option maxHeartbeats 4000000 in
theorem ext_any (l : List Wd) (A : Option Addr) (c : Nat) (w : World) (hl : Ws64 l) (hn : l.length ≤ 1048576) (hr : Reads w w.heap.size 5 A l.length (wdsCells l)) :
    Calls Try.prog 74 #[.slice A l.length c] w fun e w' => e = .returned (.tuple #[.int .i64 (extF l).1, .int .i64 (extF l).2.1, .bool (extF l).2.2]) ∧ Below w.heap.size w w' := by
  have HL := Lib.hid hr
  clear hr
  go_enter Try.func74, Try.ntmps74
  go_wp2_with fail
  go_loopw [2, 12] (fun s q wr => ∃ (k : Nat) (rl : List Int) (A : Option Addr) (c : Nat), k ≤ l.length ∧ q = .int .i64 k ∧ s = .int .i64 (exAt l k).least ∧ EI w l k rl A c wr) (fun _ q _ => l.length - (intOf q).toNat)
  case atStart =>
    refine ⟨0, [], none, 0, by omega, rfl, rfl, ?_, ?_, ?_, World.ownsRow_nil _ _ _ _, by intro x hx; simp at hx, by simp, rfl, by simp [Value.ownBlock], ?_⟩
    · exact Blk.at_ _ _ _ (by simp)
    · exact ((Blk.new _ _ _).alloc _).alloc _
    · exact (Blk.at_ _ _ _ (by simp)).alloc _
    · exact (((Below.refl _ _).alloc (Nat.le_refl _) _).alloc (by simp) _).alloc (by simp; omega) _
  case round =>
    obtain ⟨k, rl, Ar, cr, hk, rfl, rfl, hi⟩ := hrel
    obtain ⟨hrow, hgr, hfa, hown, hb64, hlen, hsum, hne, hw⟩ := hi
    have HSUM := Lib.hid hsum
    clear hsum
    by_cases hlt : k < l.length
    · obtain ⟨ad, rfl, hab, a0, a1, a2, a3, a4⟩ := (HL.out.below hw).wd rfl hlt
      have hX := hl.at_ hlt
      have HST := Lib.hid (exAt_succ l hlt)
      obtain ⟨x, hx⟩ : ∃ x, l[k] = x := ⟨_, rfl⟩
      rw [hx] at a0 a1 a2 a3 a4 hX HST
      clear hx
      have hb0 : Blk (wr.alloc (.cells #[.int .i64 x.fr, .int .i64 x.up, .int .i64 x.w, .int .i64 x.gap, .int .i64 x.forced] 146)) wr.heap.size 146 #[.int .i64 x.fr, .int .i64 x.up, .int .i64 x.w, .int .i64 x.gap, .int .i64 x.forced] := Blk.new _ _ _
      have hrow0 := hrow.alloc (.cells #[.int .i64 x.fr, .int .i64 x.up, .int .i64 x.w, .int .i64 x.gap, .int .i64 x.forced] 146)
      have hgr0 := hgr.alloc (.cells #[.int .i64 x.fr, .int .i64 x.up, .int .i64 x.w, .int .i64 x.gap, .int .i64 x.forced] 146)
      have hfa0 := hfa.alloc (.cells #[.int .i64 x.fr, .int .i64 x.up, .int .i64 x.w, .int .i64 x.gap, .int .i64 x.forced] 146)
      have hown0 := hown.alloc (.cells #[.int .i64 x.fr, .int .i64 x.up, .int .i64 x.w, .int .i64 x.gap, .int .i64 x.forced] 146)
      have hw0 := hw.alloc hw.size (.cells #[.int .i64 x.fr, .int .i64 x.up, .int .i64 x.w, .int .i64 x.gap, .int .i64 x.forced] 146)
      have hlr := hrow.lt
      have hsz := hw.size
      obtain ⟨m, hm⟩ : ∃ m, (exAt l k).least = m := ⟨_, rfl⟩
      have HM := Lib.hid hm
      simp only [hm]
      clear hm
      by_cases hk0 : k = 0
      · have HE : Hid (exLeast k m x = x.w) := Lib.hid (by simp [exLeast, hk0])
        have HS : Hid (starts k x = true) := Lib.hid (by simp [starts, hk0])
        have e0 : ((k : Int) == 0) = true := by simp [hk0]
        have hk1 : k ≤ 0 := by omega
        clear hk0
        have HEX : Hid (exAt l (k + 1) = ⟨x.w, max (exAt l k).great (cutF rl.sum), (exAt l k).far || cutB rl.sum, x.w⟩) := Lib.hid (by rw [HST.out, exStep, if_pos HS.out, HM.out, HE.out, HSUM.out]; rfl)
        have HD := Lib.hid (done_any rl Ar cr (exAt l k).great (exAt l k).far (w.heap.size + 1 + 1) w.heap.size (w.heap.size + 1) w.heap.size _ hb64 (by omega) hrow0 hgr0 hfa0 hown0 (by omega) (by omega) (by omega) (by rw [ownBlock_any Ar 0 rl.length]; exact hne))
        go_wp2_with fail
        refine HD.out.mono ?_
        rintro e W ⟨⟨v, rfl⟩, hR, hG, hF, hO, hbW, hkeep⟩
        have hbx := (hkeep wr.heap.size (by simp) (by omega) (by omega) (by omega)).trans hb0
        obtain ⟨x0, x1, x2, x3, x4⟩ := Blk.c5 (w := W) hbx
        have R0 := hR.c1
        have hwW := hw0.trans hbW
        have hneW : (Value.slice Ar ([] : List Int).length cr).ownBlock ≠ some w.heap.size := by rw [ownBlock_any Ar _ rl.length]; exact hne
        have HOWN := Lib.hid hO
        go_wp2_with (at_builtin; refine wpList_app (m := 1) rfl _ _ rfl el_i64 HOWN.out hwW.size rfl [_] rfl (by simp) (by simp [Value.oneCell']) (by simp) (by omega) ?_; intro A' c' w' hown' hB hg hob; have hR2 := hR.grown hg (row_ne HOWN.out hR (by decide)); have v2 := hR2.c1; have f2 := hR2.frozen)
        go_roundw
        case rel => exact ⟨k + 1, [] ++ [x.w], A', c', by omega, by go_num, by rw [HEX.out], EI.put (rl := []) (news := [x.w]) hR hG hF HOWN.out hneW hwW hown' rfl hB hg hob ⟨by rw [HEX.out], by rw [HEX.out], by rw [HEX.out]; simp⟩ (by intro y hy; simp at hy) (by intro y hy; rw [List.mem_singleton] at hy; subst hy; exact hX.1) (by simp; omega)⟩
        case measure => simp [intOf]; omega
      · have e0 : ((k : Int) == 0) = false := by simp [hk0]
        by_cases hlw : m < x.w
        · have HE : Hid (exLeast k m x = x.w) := Lib.hid (by simp [exLeast, hlw])
          have e2 : decide (m < x.w) = true := decide_eq_true hlw
          by_cases hf : 0 < x.forced
          · have HS : Hid (starts k x = true) := Lib.hid (by simp [starts, hf])
            have e3 : decide (0 < x.forced) = true := decide_eq_true hf
            have HEX : Hid (exAt l (k + 1) = ⟨x.w, max (exAt l k).great (cutF rl.sum), (exAt l k).far || cutB rl.sum, x.w⟩) := Lib.hid (by rw [HST.out, exStep, if_pos HS.out, HM.out, HE.out, HSUM.out]; rfl)
            have HD := Lib.hid (done_any rl Ar cr (exAt l k).great (exAt l k).far (w.heap.size + 1 + 1) w.heap.size (w.heap.size + 1) w.heap.size _ hb64 (by omega) hrow0 hgr0 hfa0 hown0 (by omega) (by omega) (by omega) (by rw [ownBlock_any Ar 0 rl.length]; exact hne))
            go_wp2_with fail
            refine HD.out.mono ?_
            rintro e W ⟨⟨v, rfl⟩, hR, hG, hF, hO, hbW, hkeep⟩
            have hbx := (hkeep wr.heap.size (by simp) (by omega) (by omega) (by omega)).trans hb0
            obtain ⟨x0, x1, x2, x3, x4⟩ := Blk.c5 (w := W) hbx
            have R0 := hR.c1
            have hwW := hw0.trans hbW
            have hneW : (Value.slice Ar ([] : List Int).length cr).ownBlock ≠ some w.heap.size := by rw [ownBlock_any Ar _ rl.length]; exact hne
            have HOWN := Lib.hid hO
            go_wp2_with (at_builtin; refine wpList_app (m := 1) rfl _ _ rfl el_i64 HOWN.out hwW.size rfl [_] rfl (by simp) (by simp [Value.oneCell']) (by simp) (by omega) ?_; intro A' c' w' hown' hB hg hob; have hR2 := hR.grown hg (row_ne HOWN.out hR (by decide)); have v2 := hR2.c1; have f2 := hR2.frozen)
            go_roundw
            case rel => exact ⟨k + 1, [] ++ [x.w], A', c', by omega, by go_num, by rw [HEX.out], EI.put (rl := []) (news := [x.w]) hR hG hF HOWN.out hneW hwW hown' rfl hB hg hob ⟨by rw [HEX.out], by rw [HEX.out], by rw [HEX.out]; simp⟩ (by intro y hy; simp at hy) (by intro y hy; rw [List.mem_singleton] at hy; subst hy; exact hX.1) (by simp; omega)⟩
            case measure => simp [intOf]; omega
          · have HS : Hid (starts k x = false) := Lib.hid (by simp [starts, hf, hk0])
            have e3 : decide (0 < x.forced) = false := decide_eq_false hf
            have HEX : Hid (exAt l (k + 1) = ⟨x.w, (exAt l k).great, (exAt l k).far, (exAt l k).row + (x.gap + x.w)⟩) := Lib.hid (by rw [HST.out, exStep, if_neg (by rw [HS.out]; simp), HM.out, HE.out])
            have R0 := hrow0.c1
            go_wp2_with (at_builtin; refine wpList_appg2 (m := 2) rfl _ _ rfl el_i64 hown0 hw0.size rfl [_, _] rfl (by simp) (by simp) (by simp [Value.oneCell']) (by omega) (by omega) ?_; intro A' c' w' hown' hB hg hob; have hR2 := hrow0.grown hg (row_ne hown0 hrow0 (by decide)); have v2 := hR2.c1; have f2 := hR2.frozen)
            go_roundw
            case rel => exact ⟨k + 1, rl ++ [x.gap, x.w], A', c', by omega, by go_num, by rw [HEX.out], EI.put (news := [x.gap, x.w]) hrow0 hgr0 hfa0 hown0 hne hw0 hown' rfl hB hg hob ⟨by rw [HEX.out], by rw [HEX.out], by rw [HEX.out, List.sum_append, HSUM.out]; simp⟩ hb64 (by intro y hy; simp at hy; rcases hy with rfl | rfl; exact hX.2; exact hX.1) (by simp; omega)⟩
            case measure => simp [intOf]; omega
        · have HE : Hid (exLeast k m x = m) := Lib.hid (by simp [exLeast, hlw, hk0])
          have e2 : decide (m < x.w) = false := decide_eq_false hlw
          by_cases hf : 0 < x.forced
          · have HS : Hid (starts k x = true) := Lib.hid (by simp [starts, hf])
            have e3 : decide (0 < x.forced) = true := decide_eq_true hf
            have HEX : Hid (exAt l (k + 1) = ⟨m, max (exAt l k).great (cutF rl.sum), (exAt l k).far || cutB rl.sum, x.w⟩) := Lib.hid (by rw [HST.out, exStep, if_pos HS.out, HM.out, HE.out, HSUM.out]; rfl)
            have HD := Lib.hid (done_any rl Ar cr (exAt l k).great (exAt l k).far (w.heap.size + 1 + 1) w.heap.size (w.heap.size + 1) w.heap.size _ hb64 (by omega) hrow0 hgr0 hfa0 hown0 (by omega) (by omega) (by omega) (by rw [ownBlock_any Ar 0 rl.length]; exact hne))
            go_wp2_with fail
            refine HD.out.mono ?_
            rintro e W ⟨⟨v, rfl⟩, hR, hG, hF, hO, hbW, hkeep⟩
            have hbx := (hkeep wr.heap.size (by simp) (by omega) (by omega) (by omega)).trans hb0
            obtain ⟨x0, x1, x2, x3, x4⟩ := Blk.c5 (w := W) hbx
            have R0 := hR.c1
            have hwW := hw0.trans hbW
            have hneW : (Value.slice Ar ([] : List Int).length cr).ownBlock ≠ some w.heap.size := by rw [ownBlock_any Ar _ rl.length]; exact hne
            have HOWN := Lib.hid hO
            go_wp2_with (at_builtin; refine wpList_app (m := 1) rfl _ _ rfl el_i64 HOWN.out hwW.size rfl [_] rfl (by simp) (by simp [Value.oneCell']) (by simp) (by omega) ?_; intro A' c' w' hown' hB hg hob; have hR2 := hR.grown hg (row_ne HOWN.out hR (by decide)); have v2 := hR2.c1; have f2 := hR2.frozen)
            go_roundw
            case rel => exact ⟨k + 1, [] ++ [x.w], A', c', by omega, by go_num, by rw [HEX.out], EI.put (rl := []) (news := [x.w]) hR hG hF HOWN.out hneW hwW hown' rfl hB hg hob ⟨by rw [HEX.out], by rw [HEX.out], by rw [HEX.out]; simp⟩ (by intro y hy; simp at hy) (by intro y hy; rw [List.mem_singleton] at hy; subst hy; exact hX.1) (by simp; omega)⟩
            case measure => simp [intOf]; omega
          · have HS : Hid (starts k x = false) := Lib.hid (by simp [starts, hf, hk0])
            have e3 : decide (0 < x.forced) = false := decide_eq_false hf
            have HEX : Hid (exAt l (k + 1) = ⟨m, (exAt l k).great, (exAt l k).far, (exAt l k).row + (x.gap + x.w)⟩) := Lib.hid (by rw [HST.out, exStep, if_neg (by rw [HS.out]; simp), HM.out, HE.out])
            have R0 := hrow0.c1
            go_wp2_with (at_builtin; refine wpList_appg2 (m := 2) rfl _ _ rfl el_i64 hown0 hw0.size rfl [_, _] rfl (by simp) (by simp) (by simp [Value.oneCell']) (by omega) (by omega) ?_; intro A' c' w' hown' hB hg hob; have hR2 := hrow0.grown hg (row_ne hown0 hrow0 (by decide)); have v2 := hR2.c1; have f2 := hR2.frozen)
            go_roundw
            case rel => exact ⟨k + 1, rl ++ [x.gap, x.w], A', c', by omega, by go_num, by rw [HEX.out], EI.put (news := [x.gap, x.w]) hrow0 hgr0 hfa0 hown0 hne hw0 hown' rfl hB hg hob ⟨by rw [HEX.out], by rw [HEX.out], by rw [HEX.out, List.sum_append, HSUM.out]; simp⟩ hb64 (by intro y hy; simp at hy; rcases hy with rfl | rfl; exact hX.2; exact hX.1) (by simp; omega)⟩
            case measure => simp [intOf]; omega
    · obtain rfl : k = l.length := by omega
      have hlr := hrow.lt
      have HD := Lib.hid (done_any rl Ar cr (exAt l l.length).great (exAt l l.length).far (w.heap.size + 1 + 1) w.heap.size (w.heap.size + 1) w.heap.size _ hb64 (by omega) hrow hgr hfa hown (by omega) (by omega) (by omega) (by rw [ownBlock_any Ar 0 rl.length]; exact hne))
      rw [HSUM.out] at HD
      obtain ⟨g, hg⟩ : ∃ g, max (exAt l l.length).great (cutF (exAt l l.length).row) = g := ⟨_, rfl⟩
      obtain ⟨f, hf⟩ : ∃ f, ((exAt l l.length).far || cutB (exAt l l.length).row) = f := ⟨_, rfl⟩
      obtain ⟨s, hs⟩ : ∃ s, (exAt l l.length).least = s := ⟨_, rfl⟩
      have HR : Hid (extF l = (s, g, f)) := Lib.hid (by rw [← hg, ← hf, ← hs]; rfl)
      rw [hg, hf] at HD
      simp only [hs]
      clear hg hf hs
      go_wp2_with fail
      refine HD.out.mono ?_
      rintro e W ⟨⟨v, rfl⟩, hR, hG, hF, hO, hbW, hkeep⟩
      have g0 := hG.c1
      have f0 := hF.c1
      have gz := hG.frozen
      have fz := hF.frozen
      have hwW := hw.trans hbW
      have hmix : Try.prog.follows .mixedOrders = true := by kernel_rfl
      go_wp2_with fail
      go_region
      go_wp2_with fail
      have z0 : (((W.setCell ⟨w.heap.size, 0, none⟩ (.int .i64 g)).setCell ⟨w.heap.size + 1, 0, none⟩ (.bool f)).drew).cell? ⟨w.heap.size, 0, none⟩ = some (.int .i64 g) := Blk.c1 (t := 2) (((hG.set_ 0 (.int .i64 g)).far (p := ⟨w.heap.size + 1, 0, none⟩) (by simp) (.bool f)).drew)
      have z1 : (((W.setCell ⟨w.heap.size, 0, none⟩ (.int .i64 g)).setCell ⟨w.heap.size + 1, 0, none⟩ (.bool f)).drew).cell? ⟨w.heap.size + 1, 0, none⟩ = some (.bool f) := Blk.c1 (t := 4) (((hF.far (p := ⟨w.heap.size, 0, none⟩) (by simp) (.int .i64 g)).set_ 0 (.bool f)).drew)
      refine bodyPost_ret (v := .tuple #[.int .i64 s, .int .i64 g, .bool f]) (by simp [results, Try.results74, go_sem, z0, z1]) rfl ⟨by rw [HR.out], ?_⟩
      exact ((hwW.setCell (p := ⟨w.heap.size, 0, none⟩) (Nat.le_refl _) _).setCell (p := ⟨w.heap.size + 1, 0, none⟩) (by simp) _).drew
end Go.Proofs.Ytbopeofglhkffaa
