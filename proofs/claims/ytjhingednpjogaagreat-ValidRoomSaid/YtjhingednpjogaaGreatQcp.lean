/- Lemmas for ValidRoom; laid together by a program. -/
import Derived.Test.YtjhingednpjogaaGreatQct
import Derived.Test.YtjhingednpjogaaGreatVos
set_option linter.all false
set_option maxRecDepth 100000
set_option maxHeartbeats 16000000
namespace Go.Proofs.YtjhingednpjogaaGreat
open Go.Proofs.Tryz
open Go.RowKit
attribute [local go_sem] lp
section
variable{P:Program}{w:World}{o:Oper}{a:Act}{t e:TypeId}{z:Value}{size bytes m:Nat}
theorem GN(hE:El P t e z size bytes)(ty:TypeId)(b:Addr)(news:List Value){A:Option Addr}{c:Nat}(hm:0<m)(hr:Reads w w.heap.size size A m news)(Bg:m<=4294967296)(zP:bytes<=32768): ∃A' c' w',(Builtin.append_ #[t,t] ty #[.slice (some b) 0 0,.slice A m c]).run P w= .ok (.slice A' m c') w'/\w'.ownsRow w.heap.size e size (.slice A' m c') m news/\Below w.heap.size w w':=by
 obtain⟨i,hi,hz,hs,hb⟩:=Nr hE.info;have Er:m*bytes<=140737488355328:=by have:=aB6 Bg zP;omega
 obtain⟨ad,rfl,_,hc⟩:=hr.2 hm;obtain⟨v',w',rC,lV,hg⟩:=run_append_arg_grows (P:=P) w t ty e i z size bytes hE.ht hi hz hs hb hE.hzs hE.pos b 0 0 [] (by simp) (by simp) ad m c news hr.1 hc (by omega) (by simp only[maxLen];omega) (by simpa using Er);obtain⟨A',c',rfl⟩:=lZ lV;rw[ZX]at rC lV;rw[aBZ]at lV;exact⟨A',c',w',rC,lV,(ZN _ _).grown hg (X7 _) (λk hk=>by cases hk)⟩
theorem QO(hE:El P t e z size bytes)(ty:TypeId)(b:Addr)(news:List Value){A:Option Addr}{c:Nat}(hr:Reads w w.heap.size size A m news)(Bg:m<=4294967296)(zP:bytes<=32768): ∃A' c' w',(Builtin.append_ #[t,t] ty #[.slice (some b) 0 0,.slice A m c]).run P w= .ok (.slice A' m c') w'/\Below w.heap.size w w':=by
 rcases aAN m with h0 | h0
 ·subst h0;obtain⟨i,hi,hz,hs,hb⟩:=Nr hE.info;have hx:news=[]:=by have:=hr.1;simpa using this
  subst hx;refine⟨some b,0,w,?_,ZN _ _⟩;rcases A with _ | ad
  ·simp[Builtin.append_,aBF hE.ht,sizeOf,typeInfo,hi,Builtin.lenOf,Builtin.firstCells,storeCells]
  ·simp[Builtin.append_,aBF hE.ht,sizeOf,typeInfo,hi,Builtin.lenOf,Builtin.firstCells,storeCells,loadCells,loadCellsFrom]
 ·obtain⟨A',c',w',h1,-,h2⟩:=GN (P:=P) hE ty b news (c:=c) h0 hr Bg zP;exact⟨A',c',w',h1,h2⟩
theorem yR{ops:Array Oper}{K:Act->World->Prop}{Q:Exit->Act->World->Prop}{E:Prop}(tZ:o.guard=none)(s x:Operand) (ho:o.op= .call {callee:= .builtin .append,args:= #[s,x],argTypes:= #[t,t]}) (hE:El P t e z size bytes) (b:Addr) (hs:a.eval s= .slice (some b) 0 0) (news:List Value) {A:Option Addr} {c:Nat} (hx:a.eval x= .slice A m c) (hm:0<m) (hr:Reads w w.heap.size size A m news) (Bg:m<=4294967296) (zP:bytes<=32768) (h:∀A' c' w',w'.ownsRow w.heap.size e size (.slice A' m c') m news->Below w.heap.size w w'->K (a.put o.dst (.slice A' m c')) w'): if Region.wanted o (yielded ops a.tmps)=true then Oper.wp P o a w K Q else E:=by
 have hw:Region.wanted o (yielded ops a.tmps)=true:=by unfold Region.wanted;rw[tZ]
 rw[YP hw];obtain⟨A',c',w',rC,h2,h3⟩:=GN (P:=P) hE o.type b news hm hr (c:=c) Bg zP;unfold Oper.wp execOp;simp only[ho,resolve,invoke,builtin,PZ,Yk,Yd,aBS,Y6,UU,hs,hx,rC];exact h A' c' w' h2 h3
theorem Js{ops:Array Oper}{rest:List Oper}{Q:Exit->Act->World->Prop}(tZ:o.guard=none)(s x:Operand) (ho:o.op= .call {callee:= .builtin .append,args:= #[s,x],argTypes:= #[t,t]}) (hE:El P t e z size bytes) (b:Addr) (hs:a.eval s= .slice (some b) 0 0) (news:List Value) {A:Option Addr} {c:Nat} (hx:a.eval x= .slice A m c) (hr:Reads w w.heap.size size A m news) (Bg:m<=4294967296) (zP:bytes<=32768) (h:∀A' c' w',Below w.heap.size w w'->wpList P ops Q rest (a.put o.dst (.slice A' m c')) w'):wpList P ops Q (o::rest) a w:=by obtain⟨A',c',w',rC,h3⟩:=QO (P:=P) hE o.type b news hr (c:=c) Bg zP;refine aB4 tZ λK hK=>?_;unfold Oper.wp execOp;simp only[ho,resolve,invoke,builtin,PZ,Yk,Yd,aBS,Y6,UU,hs,hx,rC];exact hK _ _ (h A' c' w' h3)
end
theorem rng5C{W:World}{g o:Nat}{v0 v1 v2 v3 v4:Value}(h0:W.cell? (g,o)=some v0)(h1:W.cell? (g,o+1)=some v1)(h2:W.cell? (g,o+2)=some v2)(h3:W.cell? (g,o+3)=some v3)(h4:W.cell? (g,o+4)=some v4):W.rangeAt g o [v0,v1,v2,v3,v4]:=λj v hv=>by
 rcases j with _ | _ | _ | _ | _ | j
 ·injection hv with hv;subst hv;exact h0
 ·injection hv with hv;subst hv;exact h1
 ·injection hv with hv;subst hv;exact h2
 ·injection hv with hv;subst hv;exact h3
 ·injection hv with hv;subst hv;exact h4
 ·simp at hv
def aaq:Array Value:= #[.slice none 0 0,.slice none 0 0,.slice none 0 0,.slice none 0 0]
structure Ht(gX n:Nat)(tv:Value)(w1:World)(b3 b7 py pB rU:Bool)(A3 A7 qz:Option Addr)(c3 c7 oN nW:Nat)(W:World):Prop where
 b:Below w1.heap.size w1 W
 m3:b3=true->∃xs,W.ownsRow w1.heap.size 38 4 (.slice A3 n c3) n xs
 m7:b7=true->∃xs,W.ownsRow w1.heap.size 40 3 (.slice A7 n c7) n xs
 KV:py=true->∃xs,W.ownsRow w1.heap.size 2 1 (.slice qz n oN) n xs
 J2:pB=true->∃cs,lq W nW 32 cs/\cs=(if rU then #[.slice A3 n c3,.slice A7 n c7,.slice qz n oN,.slice none 0 0]else aaq)/\w1.heap.size<=nW
section
variable{gX n:Nat}{tv:Value}{w1 W W':World}{b3 b7 py pB rU:Bool}{A3 A7 qz:Option Addr}{c3 c7 oN nW:Nat}
theorem Ht.lR(h:Ht gX n tv w1 b3 b7 py pB rU A3 A7 qz c3 c7 oN nW W)(hb:Below W.heap.size W W'):Ht gX n tv w1 b3 b7 py pB rU A3 A7 qz c3 c7 oN nW W':=
 ⟨h.b.trans (hb.mono h.b.size),λe=>by obtain⟨xs,h1⟩:=h.m3 e;exact⟨xs,lG h1 hb⟩,λe=>by obtain⟨xs,h1⟩:=h.m7 e;exact⟨xs,lG h1 hb⟩,λe=>by obtain⟨xs,h1⟩:=h.KV e;exact⟨xs,lG h1 hb⟩,λe=>by obtain⟨cs,h1,h2,h3⟩:=h.J2 e;exact⟨cs,h1.below hb h1.lt,h2,h3⟩⟩
theorem Ht.mk3(h:Ht gX n tv w1 false b7 py pB false A3 A7 qz c3 c7 oN nW W)(hb:Below W.heap.size W W'){A:Option Addr}{c:Nat}{xs:List Value}(ho:W'.ownsRow W.heap.size 38 4 (.slice A n c) n xs):Ht gX n tv w1 true b7 py pB false A A7 qz c c7 oN nW W':=by have h2:=h.lR hb;exact⟨h2.b,λ_=>⟨xs,mL ho h.b.size⟩,h2.m7,h2.KV,h2.J2⟩
theorem Ht.mk7(h:Ht gX n tv w1 b3 false py pB false A3 A7 qz c3 c7 oN nW W)(hb:Below W.heap.size W W'){A:Option Addr}{c:Nat}{xs:List Value}(ho:W'.ownsRow W.heap.size 40 3 (.slice A n c) n xs):Ht gX n tv w1 b3 true py pB false A3 A qz c3 c oN nW W':=by have h2:=h.lR hb;exact⟨h2.b,h2.m3,λ_=>⟨xs,mL ho h.b.size⟩,h2.KV,h2.J2⟩
theorem Ht.mk11(h:Ht gX n tv w1 b3 b7 false pB false A3 A7 qz c3 c7 oN nW W)(hb:Below W.heap.size W W'){A:Option Addr}{c:Nat}{xs:List Value}(ho:W'.ownsRow W.heap.size 2 1 (.slice A n c) n xs):Ht gX n tv w1 b3 b7 true pB false A3 A7 A c3 c7 c nW W':=by have h2:=h.lR hb;exact⟨h2.b,h2.m3,h2.m7,λ_=>⟨xs,mL ho h.b.size⟩,h2.J2⟩
theorem Ht.mk13(h:Ht gX n tv w1 b3 b7 py false false A3 A7 qz c3 c7 oN nW W):Ht gX n tv w1 b3 b7 py true false A3 A7 qz c3 c7 oN W.heap.size (W.alloc (.cells aaq 32)):=by have h2:=h.lR ((ZN _ W).alloc (X7 _) (.cells aaq 32));exact⟨h2.b,h2.m3,h2.m7,h2.KV,λ_=>⟨_,lq.new _ _ _,rfl,h.b.size⟩⟩
theorem Ht.mk14(h:Ht gX n tv w1 true true true true false A3 A7 qz c3 c7 oN nW W):Ht gX n tv w1 true true true true true A3 A7 qz c3 c7 oN nW (W.setCells nW 0 [.slice A3 n c3,.slice A7 n c7,.slice qz n oN,.slice none 0 0]):=by
 obtain⟨cs,h1,h2,h3⟩:=h.J2 rfl;have hf:∀(vs:List Value) (o:Nat) (W:World) (cs:Array Value) {ty:TypeId} {size k:Nat} {v:Value} {xs:List Value},ty≠32->lq W nW 32 cs->W.ownsRow w1.heap.size ty size v k xs->(W.setCells nW o vs).ownsRow w1.heap.size ty size v k xs:=by
  intro vs;induction vs with
  | nil=>intro o W cs ty size k v xs _ _ h;exact h
  | cons u vs ih=>intro o W cs ty size k v xs mI hb h;exact ih (o+1) _ _ mI (hb.lA o u) (ZP h (a:=⟨nW,o,none⟩) (λe=>lD h hb mI e) u)
 refine⟨mQ h3 _ _ _ _ h.b,λ_=>?_,λ_=>?_,λ_=>?_,λ_=>?_⟩
 ·obtain⟨xs,k⟩:=h.m3 rfl;exact⟨xs,hf _ _ _ _ (by decide) h1 k⟩
 ·obtain⟨xs,k⟩:=h.m7 rfl;exact⟨xs,hf _ _ _ _ (by decide) h1 k⟩
 ·obtain⟨xs,k⟩:=h.KV rfl;exact⟨xs,hf _ _ _ _ (by decide) h1 k⟩
 ·have k:=lq.setCells [.slice A3 n c3,.slice A7 n c7,.slice qz n oN,.slice none 0 0] 0 W cs h1;rw[h2]at k;exact⟨_,k,rfl,h3⟩
end
def CpP(n gX:Nat)(v1 v2 v3 v4 tv:Value)(w1:World)(L:Array Bool)(a:Act)(W:World):Prop:=
 ∃(b0 b1 b2 b3 b4 b5 b6 b7 b8 b9 sr py sJ pB rU:Bool) (e0 e4 e8:Nat) (A3 A7 qz:Option Addr) (c3 c7 oN nW:Nat),L= #[b0,b1,b2,b3,b4,b5,b6,b7,b8,b9,sr,py,sJ,pB,rU]/\a=({tmps:= #[tv,.pointer gX,.pointer (some ⟨gX+1,0,none⟩),(if pB then .pointer nW else undef),undef,undef,undef,undef,if b0 then .slice e0 0 0 else undef,if b1 then .pointer gX else undef,if b2 then v1 else undef,if b3 then .slice A3 n c3 else undef,if b4 then .slice e4 0 0 else undef,if b5 then .pointer (some ⟨gX,1,none⟩)else undef,if b6 then v2 else undef,if b7 then .slice A7 n c7 else undef,if b8 then .slice e8 0 0 else undef,if b9 then .pointer (some ⟨gX,2,none⟩)else undef,if sr then v3 else undef,if py then .slice qz n oN else undef,if sJ then .agg #[.slice A3 n c3,.slice A7 n c7,.slice qz n oN,.slice none 0 0]else undef,undef,undef,undef,undef,undef,undef,undef,undef,undef,undef,undef,undef,undef,undef,undef,undef,undef,undef,undef,undef,undef,undef,undef,undef,undef,undef,undef,undef,undef,undef,undef,undef,undef,undef,undef,undef,undef,undef,undef,undef,undef,undef,undef,undef,undef,undef,undef,undef,undef,undef,undef],defers:=[]}:Act)/\Ht gX n tv w1 b3 b7 py pB rU A3 A7 qz c3 c7 oN nW W/\(sJ=true->b3=true/\b7=true/\py=true)/\(rU=true->sJ=true/\pB=true)
structure C0(B n g3:Nat)(A3 A7 qz:Option Addr)(c3 c7 oN:Nat)(Ag:Option Addr)(cg i:Nat)(w1 W:World):Prop where
 b:Below B w1 W
 sz:B<=W.heap.size
 y:lq W g3 32 #[.slice A3 n c3,.slice A7 n c7,.slice qz n oN,.slice Ag i cg]
 ge:B<=g3
 r3:∃xs,W.ownsRow B 38 4 (.slice A3 n c3) n xs
 r7:∃xs,W.ownsRow B 40 3 (.slice A7 n c7) n xs
 r11:∃xs,W.ownsRow B 2 1 (.slice qz n oN) n xs
 f:∃xs,W.ownsRow B 43 5 (.slice Ag i cg) i xs
structure Tr(B:Nat)(Ag:Option Addr)(cg i g5:Nat)(v0 v1 v2 v3:Value)(Al:Option Addr)(cl k:Nat)(W:World):Prop where
 f:lq W g5 43 #[v0,v1,v2,v3,.slice Al k cl]
 ge:B<=g5
 ne:∀g,(Value.slice Ag i cg).ownBlock=some g->g<g5
 l:∃xs,W.ownsRow B 79 3 (.slice Al k cl) k xs
section
variable{B n g3:Nat}{A3 A7 qz Ag Al:Option Addr}{c3 c7 oN cg cl i k g5:Nat}{w1 W W':World}{v0 v1 v2 v3:Value}
theorem C0.lR(h:C0 B n g3 A3 A7 qz c3 c7 oN Ag cg i w1 W)(hb:Below W.heap.size W W'):C0 B n g3 A3 A7 qz c3 c7 oN Ag cg i w1 W':=
 ⟨h.b.trans (hb.mono h.sz),YL h.sz hb.size,h.y.below hb h.y.lt,h.ge,by obtain⟨xs,k⟩:=h.r3;exact⟨xs,lG k hb⟩,by obtain⟨xs,k⟩:=h.r7;exact⟨xs,lG k hb⟩,by obtain⟨xs,k⟩:=h.r11;exact⟨xs,lG k hb⟩,by obtain⟨xs,k⟩:=h.f;exact⟨xs,lG k hb⟩⟩
theorem Tr.lR(h:Tr B Ag cg i g5 v0 v1 v2 v3 Al cl k W)(hb:Below W.heap.size W W'):Tr B Ag cg i g5 v0 v1 v2 v3 Al cl k W':=⟨h.f.below hb h.f.lt,h.ge,h.ne,by obtain⟨xs,k⟩:=h.l;exact⟨xs,lG k hb⟩⟩
theorem C0.MH(h:C0 B n g3 A3 A7 qz c3 c7 oN Ag cg i w1 W){cs:Array Value}(hf:lq W g5 43 cs)(qU:B<=g5)(mI:∀g,(Value.slice Ag i cg).ownBlock=some g->g<g5)(o:Nat)(u:Value):C0 B n g3 A3 A7 qz c3 c7 oN Ag cg i w1 (W.setCell (g5,o) u):=by have kt:∀t,t≠43->Kt t B W (W.setCell (g5,o) u):=λt ht=>Kt.setCell (p:=(g5,o)) u (.inr ⟨_,_,ht,hf⟩);exact⟨h.b.setCell (p:=⟨g5,o,none⟩) qU u,by rw[qm];exact h.sz,h.y.lQ (p:=⟨g5,o,none⟩) (h.y.se hf (by decide)) u,h.ge,by obtain⟨xs,k⟩:=h.r3;exact⟨xs,(kt _ (by decide)).own (X7 _) k⟩,by obtain⟨xs,k⟩:=h.r7;exact⟨xs,(kt _ (by decide)).own (X7 _) k⟩,by obtain⟨xs,k⟩:=h.r11;exact⟨xs,(kt _ (by decide)).own (X7 _) k⟩,by obtain⟨xs,k⟩:=h.f;exact⟨xs,ZP k (a:=⟨g5,o,none⟩) (λe=>by have h1:=mI _ e;simp only at h1;omega) u⟩⟩
theorem C0.oth(h:C0 B n g3 A3 A7 qz c3 c7 oN Ag cg i w1 W){t:TypeId}{g:Nat}{cs:Array Value}(hf:lq W g t cs)(qU:B<=g)(h1:32≠t)(h2:38≠t)(h3:40≠t)(h4:2≠t)(h5:43≠t)(o:Nat)(u:Value):C0 B n g3 A3 A7 qz c3 c7 oN Ag cg i w1 (W.setCell (g,o) u):=by have kt:∀t2,t2≠t->Kt t2 B W (W.setCell (g,o) u):=λt2 ht=>Kt.setCell (p:=(g,o)) u (.inr ⟨_,_,ht,hf⟩);exact⟨h.b.setCell (p:=⟨g,o,none⟩) qU u,by rw[qm];exact h.sz,h.y.lQ (p:=⟨g,o,none⟩) (h.y.se hf h1) u,h.ge,by obtain⟨xs,k⟩:=h.r3;exact⟨xs,(kt _ h2).own (X7 _) k⟩,by obtain⟨xs,k⟩:=h.r7;exact⟨xs,(kt _ h3).own (X7 _) k⟩,by obtain⟨xs,k⟩:=h.r11;exact⟨xs,(kt _ h4).own (X7 _) k⟩,by obtain⟨xs,k⟩:=h.f;exact⟨xs,(kt _ h5).own (X7 _) k⟩⟩
theorem Tr.oth(h:Tr B Ag cg i g5 v0 v1 v2 v3 Al cl k W){t:TypeId}{g:Nat}{cs:Array Value}(hf:lq W g t cs)(h1:43≠t)(h2:79≠t\/∀g2,(Value.slice Al k cl).ownBlock=some g2->g2<g)(o:Nat)(u:Value):Tr B Ag cg i g5 v0 v1 v2 v3 Al cl k (W.setCell (g,o) u):=by
 refine⟨h.f.lQ (p:=(g,o)) (h.f.se hf h1) u,h.ge,h.ne,?_⟩;obtain⟨xs,k⟩:=h.l;refine⟨xs,ZP k (a:=⟨g,o,none⟩) (λe=>?_) u⟩;rcases h2 with h2 | h2
 ·exact lD k hf h2 e
 ·have h3:=h2 _ e;simp only at h3;omega
theorem C0.appL(h:C0 B n g3 A3 A7 qz c3 c7 oN Ag cg i w1 W)(hF:Tr B Ag cg i g5 v0 v1 v2 v3 Al cl k W){A':Option Addr}{c':Nat}{xs:List Value}(hg:W.grownBy W' (Value.slice Al k cl).ownBlock)(ho:W'.ownsRow B 79 3 (.slice A' (k+1) c') (k+1) xs): C0 B n g3 A3 A7 qz c3 c7 oN Ag cg i w1 (W'.setCell (g5,4) (.slice A' (k+1) c'))/\Tr B Ag cg i g5 v0 v1 v2 v3 A' c' (k+1) (W'.setCell (g5,4) (.slice A' (k+1) c')):=by obtain⟨ys,hl⟩:=hF.l;have kt:∀t',t'≠79->Kt t' B W W':=wJ hl hg;have nb:∀{g t cs},79≠t->lq W g t cs->lq W' g t cs:=λht hx=>hx.grown hg (λe=>lD hl hx ht e.symm);have hI:C0 B n g3 A3 A7 qz c3 c7 oN Ag cg i w1 W':=⟨h.b.grown hg h.sz (λg e=>(hl.lt g e).1),YL h.sz hg.size,nb (by decide) h.y,h.ge,by obtain⟨xs,k⟩:=h.r3;exact⟨xs,(kt _ (by decide)).own (X7 _) k⟩,by obtain⟨xs,k⟩:=h.r7;exact⟨xs,(kt _ (by decide)).own (X7 _) k⟩,by obtain⟨xs,k⟩:=h.r11;exact⟨xs,(kt _ (by decide)).own (X7 _) k⟩,by obtain⟨xs,k⟩:=h.f;exact⟨xs,(kt _ (by decide)).own (X7 _) k⟩⟩;have D9:=nb (by decide) hF.f;exact⟨hI.MH D9 hF.ge hF.ne 4 _,⟨D9.lA 4 _,hF.ge,hF.ne,_,ZP ho (a:=⟨g5,4,none⟩) (λe=>lD ho D9 (by decide) e) _⟩⟩
theorem C0.Xf(h:C0 B n g3 A3 A7 qz c3 c7 oN Ag cg i w1 W){A':Option Addr}{c':Nat}{xs ys:List Value}(hl:W.ownsRow B 43 5 (.slice Ag i cg) i ys)(hg:W.grownBy W' (Value.slice Ag i cg).ownBlock)(ho:W'.ownsRow B 43 5 (.slice A' (i+1) c') (i+1) xs): C0 B n g3 A3 A7 qz c3 c7 oN A' c' (i+1) w1 (W'.setCell (g3,3) (.slice A' (i+1) c')):=by have hy:=h.y.grown hg (λe=>lD hl h.y (by decide) e.symm);have kt:∀t',t'≠43->t'≠32->Kt t' B W (W'.setCell (g3,3) (.slice A' (i+1) c')):=λt' h1 h2=>(wJ hl hg t' h1).trans (Kt.setCell (p:=(g3,3)) _ (.inr ⟨_,_,h2,hy⟩));exact⟨(h.b.grown hg h.sz (λg e=>(hl.lt g e).1)).setCell (p:=(g3,3)) h.ge _,by rw[qm];exact YL h.sz hg.size,hy.lA 3 _,h.ge,by obtain⟨xs,k⟩:=h.r3;exact⟨xs,(kt _ (by decide) (by decide)).own (X7 _) k⟩,by obtain⟨xs,k⟩:=h.r7;exact⟨xs,(kt _ (by decide) (by decide)).own (X7 _) k⟩,by obtain⟨xs,k⟩:=h.r11;exact⟨xs,(kt _ (by decide) (by decide)).own (X7 _) k⟩,_,ZP ho (a:=⟨g3,3,none⟩) (λe=>lD ho hy (by decide) e) _⟩
end
theorem Reads.lnQ{W:World}{B n k:Nat}{A:Option Addr}{ls:List CX}(h:Reads W B 3 A n (pZ ls))(hn:n=ls.length)(hk:k<ls.length): ∃ad:Addr,A=some ad/\ad.block<B/\W.cell? (ad.add (k*3))=some (.int .i64 ls[k].y)/\W.cell? (ad.block,(ad.add (k*3)).off+1)=some (.int .i64 ls[k].h)/\W.cell? (ad.block,(ad.add (k*3)).off+2)=some (.slice ls[k].A ls[k].ps.length ls[k].c):=by
 obtain⟨ad,e,hb,hc⟩:=h.2 (by omega);have ha:∀i,i≠0->(⟨ad.block,(ad.add (k*3)).off+i,none⟩:Addr)=ad.add (k*3+i):=λi hi=>by rw[<-mJ,show∀p:Addr,p.add i=⟨p.block,p.off+i,none⟩from λp=>by unfold Addr.add;rw[YO hi],lp]
 have hat:∀(l:List CX) (k i:Nat) (hk:k<l.length),i<3->(pZ l)[k*3+i]? =(tP l[k])[i]?:=by
  intro l;induction l with
  | nil=>intro k i hk;simp at hk
  | cons a t ih=>
   intro k i hk hi;have hc:pZ (a::t)=tP a++pZ t:=(by simp[pZ]);have hl:(tP a).length=3:=rfl;rw[hc];rcases k with _ | k
   ·rw[YN (by omega)];simp
   ·rw[YQ (by omega),show(k+1)*3+i-(tP a).length=k*3+i by omega,ih k i (by simpa using hk) hi];simp
 have hg:∀i,i<3->∀u,(tP ls[k])[i]? =some u->W.cell? (ad.add (k*3+i))=some u:=λi hi u hu=>hc _ u (by rw[hat ls k i hk hi];exact hu);refine⟨ad,e,hb,hg 0 (by omega) _ rfl,?_,?_⟩
 ·rw[ha 1 (by omega)];exact hg 1 (by omega) _ rfl
 ·rw[ha 2 (by omega)];exact hg 2 (by omega) _ rfl
theorem I0{W:World}{B size n g:Nat}{ty:TypeId}{v:Value}{xs:List Value}(h:W.ownsRow B ty size v n xs)(hg:g<B){a b c d:Value}:((((W.setCell (g,0) a).setCell (g,1) b).setCell (g,2) c).setCell (g,3) d).ownsRow B ty size v n xs:=by have st:∀{W:World} (h:W.ownsRow B ty size v n xs) (o:Nat) (u:Value),(W.setCell (g,o) u).ownsRow B ty size v n xs:=fun {W} h o u=>ZP h (a:=⟨g,o,none⟩) (λe=>by have h2:=(h.lt _ e).1;simp only at h2;omega) u;exact st (st (st (st h 0 a) 1 b) 2 c) 3 d
theorem Sf{B:Nat}{W:World}{l:CX}(h:Ul B W l):l.ps.length<=4294967296:=h.2
theorem Rx{B:Nat}{W:World}{l:CX}(h:Ul B W l):W.ownsRow B 237 5 (.slice l.A l.ps.length l.c) l.ps.length (rZ l.ps):=h.1
structure CpA(n:Nat)(w w':World)(e:Ending):Prop where
 ex:∃(A1 A2 A3 A4:Option Addr) (c1 c2 c3 c4:Nat),e= .returned (.agg #[.slice A1 n c1,.slice A2 n c2,.slice A3 n c3,.slice A4 n c4])/\(∃xs,w'.ownsRow w.heap.size 38 4 (.slice A1 n c1) n xs)/\(∃xs,w'.ownsRow w.heap.size 40 3 (.slice A2 n c2) n xs)/\(∃xs,w'.ownsRow w.heap.size 2 1 (.slice A3 n c3) n xs)/\∃xs,w'.ownsRow w.heap.size 43 5 (.slice A4 n c4) n xs
 b:Below w.heap.size w w'
theorem Qi(n B0 gc gu gh gf:Nat)(w:World)(hn:0<n)(Oy:n<=1000)(hT:QW B0 n gc gu gh gf w): Calls prog 8 #[.agg #[.slice gc n n,.slice gu n n,.slice gh n n,.slice gf n n]] w λe w'=>CpA n w w' e:=by
 obtain⟨cs,oR,hcr,-⟩:=hT.c.reads;obtain⟨us,hul,hur,-⟩:=hT.u.reads;obtain⟨hs,hhl,hhr⟩:=hT.h.reads;have HN:=X6 (And.intro hn Oy);have vY:Hid (∀W,Below w.heap.size w W->Reads W W.heap.size 4 (some ⟨gc,0,none⟩) n (ly cs)/\Reads W W.heap.size 3 (some ⟨gu,0,none⟩) n (nC us)/\Reads W W.heap.size 1 (some ⟨gh,0,none⟩) n (lY hs)):=X6 (λW hb=>⟨(hcr.below hb).more hb.size,(hur.below hb).more hb.size,(hhr.below hb).more hb.size⟩);have HFG:Hid (∃fs:List uF,fs.length=n/\∀W,Below w.heap.size w W->gf<W.heap.size/\∀i (h:i<fs.length),(W.cell? (gf,i*5)=some (.int .i64 fs[i].x)/\W.cell? (gf,i*5+1)=some (.int .i64 fs[i].y)/\W.cell? (gf,i*5+2)=some (.int .i64 fs[i].w)/\W.cell? (gf,i*5+3)=some (.int .i64 fs[i].h)/\W.cell? (gf,i*5+4)=some (.slice fs[i].A fs[i].ls.length fs[i].c))/\qT B0 W fs[i]):=X6 (by obtain⟨fs,h1,h2,h3⟩:=hT.f;refine⟨fs,h1,λW hb=>⟨YK h2.lt hb.size,λi h=>?_⟩⟩;have hk:=h2.below hb h2.lt;have hg:∀j,j<5->∀u,(mq fs[i])[j]? =some u->W.cell? ⟨gf,i*5+j,none⟩=some u:=λj hj u hu=>hk.get _ (by rw[YR,tL fs i j h hj];exact hu);exact⟨⟨hg 0 (by omega) _ rfl,hg 1 (by omega) _ rfl,hg 2 (by omega) _ rfl,hg 3 (by omega) _ rfl,hg 4 (by omega) _ rfl⟩,oh.kept (h3 _ (YJ h)) (Kt.below hb) (Kt.below hb)⟩);clear hT oR hcr hul hur hhl hhr;obtain⟨fs,Aj,hfg⟩:=HFG.out;have HFS:=X6 hfg;have RB:=X6 Aj;clear hfg Aj HFG;obtain⟨v1,TF⟩:∃v,v=Value.slice gc n n:=⟨_,rfl⟩;obtain⟨v2,E4⟩:∃v,v=Value.slice gu n n:=⟨_,rfl⟩;obtain⟨v3,hv3⟩:∃v,v=Value.slice gh n n:=⟨_,rfl⟩;obtain⟨v4,hv4⟩:∃v,v=Value.slice gf n n:=⟨_,rfl⟩;rw[<-TF,<-E4,<-hv3,<-hv4];have HV1:=X6 TF;have qH:=X6 E4;have BX:=X6 hv3;have TA:=X6 hv4;clear TF E4 hv3 hv4;obtain⟨w1,mW⟩:∃W,W=(w.alloc (.cells #[v1,v2,v3,v4] 32)).alloc (.cells #[lH,lH,lH,lH] 32):=⟨_,rfl⟩;have oW:Hid (lq w1 w.heap.size 32 #[v1,v2,v3,v4]/\lq w1 (w.heap.size+1) 32 #[lH,lH,lH,lH]/\Below w.heap.size w w1):=X6 (by rw[mW];exact⟨(lq.new _ _ _).alloc _,lq.at_ _ _ _ (by simp),bA.alloc (by simp) _⟩);have Ie:Hid (w.heap.size+1<w1.heap.size):=X6 oW.2.1.lt;have oP:Hid (∀W,Below w1.heap.size w1 W->lq W w.heap.size 32 #[v1,v2,v3,v4]/\lq W (w.heap.size+1) 32 #[lH,lH,lH,lH]/\Below w.heap.size w W):=X6 (λW hb=>⟨oW.1.below hb oW.1.lt,oW.2.1.below hb oW.2.1.lt,oW.2.2.trans (hb.mono oW.2.2.size)⟩);have HM0:Hid (Ht w.heap.size n (.agg #[v1,v2,v3,v4]) w1 false false false false false none none none 0 0 0 0 w1.drew):=X6 ⟨(ZN _ _).drew,by simp,by simp,by simp,by simp⟩;clear oW;go_enter func8,ntmps8;go_upto_region 1 with(fail);rw[<-mW];clear mW;refine uC (CpP n w.heap.size v1 v2 v3 v4 (.agg #[v1,v2,v3,v4]) w1) (by kernel_rfl) ?_ ?_ ?_
 ·exact⟨false,false,false,false,false,false,false,false,false,false,false,false,false,false,false,0,0,0,none,none,none,0,0,0,0,rfl,rfl,HM0.out,(by simp),(by simp)⟩
 ·rintro L a W i ⟨b0,b1,b2,b3,b4,b5,b6,b7,b8,b9,sr,py,sJ,pB,rU,e0,e4,e8,A3,A7,qz,c3,c7,oN,nW,rfl,rfl,hM,Ot,Mi⟩ hi;obtain⟨nt,oi,nz,mO⟩:=mem_ready.1 hi;have lN:i<15:=by
   rcases Z6 i 15 with h | h
   ·exact h
   ·rw[aCT,ZC (by simpa using h)]at nt;simp at nt
  clear hi;rcases(by omega:i=0\/i=1\/i=2\/i=3\/i=4\/i=5\/i=6\/i=7\/i=8\/i=9\/i=10\/i=11\/i=12\/i=13\/i=14)with rfl | rfl | rfl | rfl | rfl | rfl | rfl | rfl | rfl | rfl | rfl | rfl | rfl | rfl | rfl
  ·skip
   injection nz with nz;subst nz;simp[Region.binds]at nt mO;subst nt;refine mh (v:= .slice W.heap.size 0 0) (X:=W.alloc (.cells #[] 38)) rfl rfl (by kernel_rfl) ?_;exact⟨true,b1,b2,b3,b4,b5,b6,b7,b8,b9,sr,py,sJ,pB,rU,W.heap.size,e4,e8,A3,A7,qz,c3,c7,oN,nW,rfl,rfl,hM.lR bA,Ot,Mi⟩
  ·skip
   injection nz with nz;subst nz;simp[Region.binds]at nt mO;subst nt;refine mh (v:= .pointer w.heap.size) (X:=W) rfl rfl (by rfl) ?_;exact⟨b0,true,b2,b3,b4,b5,b6,b7,b8,b9,sr,py,sJ,pB,rU,e0,e4,e8,A3,A7,qz,c3,c7,oN,nW,rfl,rfl,hM,Ot,Mi⟩
  ·skip
   injection nz with nz;subst nz;simp[Region.binds]at nt mO;subst nt;subst mO;have x0:=(oP.out W hM.b).1.get 0 (v:=v1) rfl;have xl:=(oP.out W hM.b).1.lt;refine mh (v:=v1) (X:=W) rfl rfl (by go_simp) ?_;exact⟨b0,true,true,b3,b4,b5,b6,b7,b8,b9,sr,py,sJ,pB,rU,e0,e4,e8,A3,A7,qz,c3,c7,oN,nW,rfl,rfl,hM,Ot,Mi⟩
  ·skip
   injection nz with nz;subst nz;simp[Region.binds]at nt mO;subst nt;obtain⟨rfl,rfl⟩:=mO;have Nq:sJ=false:=by
    cases sJ
    ·rfl
    ·have:=Ot rfl;simp at this
   subst Nq;have Ir:rU=false:=by
    cases rU
    ·rfl
    ·have:=Mi rfl;simp at this
   subst Ir;refine wpOp_step rfl (λK' hK=>?_);have HK:=X6 hK;clear hK;refine yR rfl _ _ rfl yk _ rfl (ly cs) HV1.out HN.1 (vY.out W (oP.out W hM.b).2.2).1 (by have:=HN.2;omega) (by omega) ?_;intro A' c' w9 ho mH;refine HK.out _ _ ?_;exact⟨true,b1,true,true,b4,b5,b6,b7,b8,b9,sr,py,false,pB,false,e0,e4,e8,A',A7,qz,c',c7,oN,nW,rfl,rfl,hM.mk3 mH ho,(by simp),(by simp)⟩
  ·skip
   injection nz with nz;subst nz;simp[Region.binds]at nt mO;subst nt;refine mh (v:= .slice W.heap.size 0 0) (X:=W.alloc (.cells #[] 40)) rfl rfl (by kernel_rfl) ?_;exact⟨b0,b1,b2,b3,true,b5,b6,b7,b8,b9,sr,py,sJ,pB,rU,e0,W.heap.size,e8,A3,A7,qz,c3,c7,oN,nW,rfl,rfl,hM.lR bA,Ot,Mi⟩
  ·skip
   injection nz with nz;subst nz;simp[Region.binds]at nt mO;subst nt;refine mh (v:= .pointer (some ⟨w.heap.size,1,none⟩)) (X:=W) rfl rfl (by rfl) ?_;exact⟨b0,b1,b2,b3,b4,true,b6,b7,b8,b9,sr,py,sJ,pB,rU,e0,e4,e8,A3,A7,qz,c3,c7,oN,nW,rfl,rfl,hM,Ot,Mi⟩
  ·skip
   injection nz with nz;subst nz;simp[Region.binds]at nt mO;subst nt;subst mO;have x1:=(oP.out W hM.b).1.get 1 (v:=v2) rfl;have xl:=(oP.out W hM.b).1.lt;refine mh (v:=v2) (X:=W) rfl rfl (by go_simp) ?_;exact⟨b0,b1,b2,b3,b4,true,true,b7,b8,b9,sr,py,sJ,pB,rU,e0,e4,e8,A3,A7,qz,c3,c7,oN,nW,rfl,rfl,hM,Ot,Mi⟩
  ·skip
   injection nz with nz;subst nz;simp[Region.binds]at nt mO;subst nt;obtain⟨rfl,rfl,rfl⟩:=mO;have Nq:sJ=false:=by
    cases sJ
    ·rfl
    ·have:=Ot rfl;simp at this
   subst Nq;have Ir:rU=false:=by
    cases rU
    ·rfl
    ·have:=Mi rfl;simp at this
   subst Ir;refine wpOp_step rfl (λK' hK=>?_);have HK:=X6 hK;clear hK;refine yR rfl _ _ rfl vt _ rfl (nC us) qH.out HN.1 (vY.out W (oP.out W hM.b).2.2).2.1 (by have:=HN.2;omega) (by omega) ?_;intro A' c' w9 ho mH;refine HK.out _ _ ?_;exact⟨b0,b1,b2,true,true,b5,true,true,b8,b9,sr,py,false,pB,false,e0,e4,e8,A3,A',qz,c3,c',oN,nW,rfl,rfl,hM.mk7 mH ho,(by simp),(by simp)⟩
  ·skip
   injection nz with nz;subst nz;simp[Region.binds]at nt mO;subst nt;refine mh (v:= .slice W.heap.size 0 0) (X:=W.alloc (.cells #[] 2)) rfl rfl (by kernel_rfl) ?_;exact⟨b0,b1,b2,b3,b4,b5,b6,b7,true,b9,sr,py,sJ,pB,rU,e0,e4,W.heap.size,A3,A7,qz,c3,c7,oN,nW,rfl,rfl,hM.lR bA,Ot,Mi⟩
  ·skip
   injection nz with nz;subst nz;simp[Region.binds]at nt mO;subst nt;refine mh (v:= .pointer (some ⟨w.heap.size,2,none⟩)) (X:=W) rfl rfl (by rfl) ?_;exact⟨b0,b1,b2,b3,b4,b5,b6,b7,b8,true,sr,py,sJ,pB,rU,e0,e4,e8,A3,A7,qz,c3,c7,oN,nW,rfl,rfl,hM,Ot,Mi⟩
  ·skip
   injection nz with nz;subst nz;simp[Region.binds]at nt mO;subst nt;subst mO;have x2:=(oP.out W hM.b).1.get 2 (v:=v3) rfl;have xl:=(oP.out W hM.b).1.lt;refine mh (v:=v3) (X:=W) rfl rfl (by go_simp) ?_;exact⟨b0,b1,b2,b3,b4,b5,b6,b7,b8,true,true,py,sJ,pB,rU,e0,e4,e8,A3,A7,qz,c3,c7,oN,nW,rfl,rfl,hM,Ot,Mi⟩
  ·skip
   injection nz with nz;subst nz;simp[Region.binds]at nt mO;subst nt;obtain⟨rfl,rfl,rfl⟩:=mO;have Nq:sJ=false:=by
    cases sJ
    ·rfl
    ·have:=Ot rfl;simp at this
   subst Nq;have Ir:rU=false:=by
    cases rU
    ·rfl
    ·have:=Mi rfl;simp at this
   subst Ir;refine wpOp_step rfl (λK' hK=>?_);have HK:=X6 hK;clear hK;refine yR rfl _ _ rfl AF _ rfl (lY hs) BX.out HN.1 (vY.out W (oP.out W hM.b).2.2).2.2 (by have:=HN.2;omega) (by omega) ?_;intro A' c' w9 ho mH;refine HK.out _ _ ?_;exact⟨b0,b1,b2,b3,b4,b5,b6,true,true,b9,true,true,false,pB,false,e0,e4,e8,A3,A7,A',c3,c7,c',nW,rfl,rfl,hM.mk11 mH ho,(by simp),(by simp)⟩
  ·skip
   injection nz with nz;subst nz;simp[Region.binds]at nt mO;subst nt;obtain⟨rfl,rfl,rfl⟩:=mO;have Ir:rU=false:=by
    cases rU
    ·rfl
    ·have:=Mi rfl;simp at this
   subst Ir;refine mh (v:= .agg #[.slice A3 n c3,.slice A7 n c7,.slice qz n oN,.slice none 0 0]) (X:=W) rfl rfl (by kernel_rfl) ?_;exact⟨b0,b1,b2,true,b4,b5,b6,true,b8,b9,sr,true,true,pB,false,e0,e4,e8,A3,A7,qz,c3,c7,oN,nW,rfl,rfl,hM,λ_=>⟨rfl,rfl,rfl⟩,(by simp)⟩
  ·skip
   injection nz with nz;subst nz;simp[Region.binds]at nt mO;subst nt;have Ir:rU=false:=by
    cases rU
    ·rfl
    ·have:=Mi rfl;simp at this
   subst Ir;refine mh (v:= .pointer W.heap.size) (X:=W.alloc (.cells aaq 32)) rfl rfl (by kernel_rfl) ?_;exact⟨b0,b1,b2,b3,b4,b5,b6,b7,b8,b9,sr,py,sJ,true,false,e0,e4,e8,A3,A7,qz,c3,c7,oN,W.heap.size,rfl,rfl,hM.mk13,Ot,(by simp)⟩
  ·skip
   injection nz with nz;subst nz;simp[Region.binds]at nt mO;subst nt;obtain⟨rfl,rfl,rfl,rfl,rfl,rfl,rfl,rfl,rfl,rfl,rfl,rfl,rfl,rfl,-,-,-⟩:=mO;obtain⟨cs13,k1,k2,k3⟩:=hM.J2 rfl;rw[YO (by decide)]at k2;subst k2;refine Bw (X:=W.setCells nW 0 [.slice A3 n c3,.slice A7 n c7,.slice qz n oN,.slice none 0 0]) rfl rfl (oG 32 _ _ rfl nW 0 [.slice A3 n c3,.slice A7 n c7,.slice qz n oN,.slice none 0 0] rfl rfl W (nE k1 (X7 _)) (by kernel_rfl) (by simp[Value.oneCell'])) ?_;exact⟨true,true,true,true,true,true,true,true,true,true,true,true,true,true,true,e0,e4,e8,A3,A7,qz,c3,c7,oN,nW,rfl,rfl,hM.mk14,λ_=>⟨rfl,rfl,rfl⟩,λ_=>⟨rfl,rfl⟩⟩
 ·rintro L a W ⟨b0,b1,b2,b3,b4,b5,b6,b7,b8,b9,sr,py,sJ,pB,rU,e0,e4,e8,A3,A7,qz,c3,c7,oN,nW,rfl,rfl,hM,Ot,Mi⟩ he;obtain rfl:b0=true:=uD he 0;obtain rfl:b1=true:=uD he 1;obtain rfl:b2=true:=uD he 2;obtain rfl:b3=true:=uD he 3;obtain rfl:b4=true:=uD he 4;obtain rfl:b5=true:=uD he 5;obtain rfl:b6=true:=uD he 6;obtain rfl:b7=true:=uD he 7;obtain rfl:b8=true:=uD he 8;obtain rfl:b9=true:=uD he 9;obtain rfl:sr=true:=uD he 10;obtain rfl:py=true:=uD he 11;obtain rfl:sJ=true:=uD he 12;obtain rfl:pB=true:=uD he 13;obtain rfl:rU=true:=uD he 14;clear he Ot Mi;have HM:=X6 hM;clear hM HM0;have vp:Hid (C0 w1.heap.size n nW A3 A7 qz c3 c7 oN none 0 0 w1 W):=X6 (by obtain⟨cs,k1,k2,k3⟩:=HM.J2 rfl;rw[YP rfl]at k2;subst k2;exact⟨HM.b,HM.b.size,k1,k3,HM.m3 rfl,HM.m7 rfl,HM.KV rfl,[],YV _ _ _ _⟩);clear HM;go_upto_region 3 with(fail)
  go_loopw [4] (λiv wr=>∃(i:Nat) (Ag:Option Addr) (cg:Nat),i<=n/\iv= .int .i64 (i:Int)/\Hid (C0 w1.heap.size n nW A3 A7 qz c3 c7 oN Ag cg i w1 wr)) (λiv _=>n-(intOf iv).toNat);case atStart=>exact⟨0,none,0,by omega,rfl,vp⟩
  case round=>
   clear vp;obtain⟨i,Ag,cg,hi,rfl,HI⟩:=hrel;have Vp:IntKind.i64.wrap ((i:Int)+1)=(i:Int)+1:=YG _ ⟨by omega,by have:=HN.out;omega⟩;have x3:=(oP.out _ HI.b).1.get 3 (v:=v4) rfl;have xl:=(oP.out _ HI.b).1.lt;rw[TA.out]at x3;by_cases tQ:i<n;rotate_left
   ·have d0:decide ((i:Int)<(n:Int))=false:=X9 (by omega);have pJ:decide (i<n)=false:=X9 tQ;as_aux_lemma=>
    have XG:Hid (i=n):=X6 (by omega);have qI:Hid (C0 w1.heap.size n nW A3 A7 qz c3 c7 oN Ag cg n w1 wr):=X6 (by have h:=HI.out;rw[XG.out]at h;exact h);clear tQ hi;obtain⟨y0,y1,y2,y3⟩:=HI.y.c4;have yl:=HI.y.lt;obtain⟨z0,z1,z2,z3⟩:=(oP.out _ HI.b).2.1.c4;have zl:=(oP.out _ HI.b).2.1.lt;have zf:=(oP.out _ HI.b).2.1.frozen;go_wp2_with fail;refine ZQ (Z2 rfl _ _ (w.heap.size+1) 32 #[.slice A3 n c3,.slice A7 n c7,.slice qz n oN,.slice Ag i cg] (0,0) _ rfl (((((oP.out _ HI.b).2.1.lA 0 _).lA 1 _).lA 2 _).lA 3 _) underlying32 rfl (by kernel_rfl)) rfl ⟨⟨A3,A7,qz,Ag,c3,c7,oN,cg,by rw[XG.out],?_,?_,?_,?_⟩,((((oP.out _ HI.b).2.2.setCell (p:=⟨w.heap.size+1,0,none⟩) (Z8 _) _).setCell (p:=⟨w.heap.size+1,1,none⟩) (Z8 _) _).setCell (p:=⟨w.heap.size+1,2,none⟩) (Z8 _) _).setCell (p:=⟨w.heap.size+1,3,none⟩) (Z8 _) _⟩
    ·obtain⟨xs,k⟩:=qI.r3;exact⟨xs,mL (I0 k (Ie.out)) (by have:=Ie.out;omega)⟩
    ·obtain⟨xs,k⟩:=qI.r7;exact⟨xs,mL (I0 k (Ie.out)) (by have:=Ie.out;omega)⟩
    ·obtain⟨xs,k⟩:=qI.r11;exact⟨xs,mL (I0 k (Ie.out)) (by have:=Ie.out;omega)⟩
    ·obtain⟨xs,k⟩:=qI.f;exact⟨xs,mL (I0 k (Ie.out)) (by have:=Ie.out;omega)⟩
   as_aux_lemma=>
   have d0:decide ((i:Int)<(n:Int))=true:=YC (by omega);have pJ:decide (i<n)=true:=YC tQ;have wQ:(i:Int)<(n:Int):=(by omega);have hif:i<fs.length:=(by rw[RB.out];exact tQ);have Es:=X6 tQ;obtain⟨f,hfe⟩:∃f,f=fs[i]:=⟨_,rfl⟩;have VL:Hid (∀W,Below w1.heap.size w1 W->gf<W.heap.size/\(W.cell? (gf,i*5)=f.x/\W.cell? (gf,i*5+1)=f.y/\W.cell? (gf,i*5+2)=f.w/\W.cell? (gf,i*5+3)=f.h/\W.cell? (gf,i*5+4)=some (.slice f.A f.ls.length f.c))/\qT B0 W f):=X6 (λW hb=>by have h:=HFS.out W (oP.out W hb).2.2;rw[hfe];exact⟨h.1,h.2 i hif⟩);clear hfe hif tQ;obtain⟨f0,f1,f2,f3,f4⟩:=(VL.out _ HI.b).2.1;have pP:=X6 (show wr.rangeAt gf (i*5) [.int .i64 f.x,.int .i64 f.y,.int .i64 f.w,.int .i64 f.h,.slice f.A f.ls.length f.c]from rng5C f0 f1 f2 f3 f4);clear f0 f1 f2 f3 f4;have fl:=(VL.out _ HI.b).1;go_upto_region 6 with(first | refine wpList_load_mid rfl 43 (.tmp 31) rfl gf (i*5) rfl [.int .i64 f.x,.int .i64 f.y,.int .i64 f.w,.int .i64 f.h,.slice f.A f.ls.length f.c] _ pP.out underlying43 rfl (by kernel_rfl) ?_ | refine lJ rfl 43 _ _ rfl _ rfl #[.int .i64 f.x,.int .i64 f.y,.int .i64 f.w,.int .i64 f.h,.slice f.A f.ls.length f.c] rfl rfl 43 _ (by kernel_rfl) rfl (by simp[Value.oneCell']) ?_)
   have B8:Hid (C0 w1.heap.size n nW A3 A7 qz c3 c7 oN Ag cg i w1 (wr.alloc (.cells #[f.x,f.y,f.w,f.h,.slice f.A f.ls.length f.c] 43))/\lq (wr.alloc (.cells #[f.x,f.y,f.w,f.h,.slice f.A f.ls.length f.c] 43)) wr.heap.size 43 #[f.x,f.y,f.w,f.h,.slice f.A f.ls.length f.c]/\w1.heap.size<=wr.heap.size/\∀g,(Value.slice Ag i cg).ownBlock=some g->g<wr.heap.size):=X6 ⟨HI.lR bA,lq.new _ _ _,HI.sz,λg e=>by obtain⟨xs,k⟩:=HI.f;exact(k.lt g e).2⟩;obtain⟨g5,CT⟩:∃g,g=wr.heap.size:=⟨_,rfl⟩;rw[<-CT]at B8⊢;clear CT HI pP x3 xl fl;generalize World.alloc wr _=w6 at B8⊢;obtain⟨q0,q1,q2,q3,q4⟩:=B8.2.1.c5;have ql:=B8.2.1.lt;have qf:=B8.2.1.frozen;go_upto_region 8 with(fail)
   have Ps:Hid (C0 w1.heap.size n nW A3 A7 qz c3 c7 oN Ag cg i w1 (w6.setCell (g5,4) (.slice none 0 0))/\Tr w1.heap.size Ag cg i g5 (.int .i64 f.x) (.int .i64 f.y) (.int .i64 f.w) (.int .i64 f.h) none 0 0 (w6.setCell (g5,4) (.slice none 0 0))):=X6 ⟨B8.1.MH B8.2.1 B8.2.2.1 B8.2.2.2 4 _,⟨B8.2.1.lA 4 _,B8.2.2.1,B8.2.2.2,[],YV _ _ _ _⟩⟩;clear q0 q1 q2 q3 q4 ql qf B8;generalize World.setCell w6 _ _=w7 at Ps⊢;have ru:Hid (f.ls.length<=3600060000):=X6 (VL.out _ Ps.1.b).2.2.n;go_loopw [6] (λkv V=>∃(k:Nat) (Al:Option Addr) (cl:Nat),k<=f.ls.length/\kv= .int .i64 (k:Int)/\Hid (C0 w1.heap.size n nW A3 A7 qz c3 c7 oN Ag cg i w1 V/\Tr w1.heap.size Ag cg i g5 (.int .i64 f.x) (.int .i64 f.y) (.int .i64 f.w) (.int .i64 f.h) Al cl k V)) (λkv _=>f.ls.length-(intOf kv).toNat);case atStart=>exact⟨0,none,0,by omega,rfl,Ps⟩
   case round=>
    clear Ps;obtain⟨k,Al,cl,hk,rfl,HJ⟩:=hrel;have C2:IntKind.i64.wrap ((k:Int)+1)=(k:Int)+1:=YG _ ⟨by omega,by have:=ru.out;omega⟩;have x3:=(oP.out _ HJ.1.b).1.get 3 (v:=v4) rfl;have xl:=(oP.out _ HJ.1.b).1.lt;rw[TA.out]at x3;obtain⟨-,-,-,-,f4⟩:=(VL.out _ HJ.1.b).2.1;have fl:=(VL.out _ HJ.1.b).1;by_cases nF:k<f.ls.length;rotate_left
    ·have e0:decide ((k:Int)<(f.ls.length:Int))=false:=X9 (by omega);have Mc:decide (k<f.ls.length)=false:=X9 nF;obtain⟨xs,hfr⟩:=HJ.1.f;have AK:=X6 hfr;obtain⟨y0,y1,y2,y3⟩:=HJ.1.y.c4;have yl:=HJ.1.y.lt;obtain⟨q0,q1,q2,q3,q4⟩:=HJ.2.f.c5;have ql:=HJ.2.f.lt;have oA:i+1<=4294967296:=(by have:=HN.out;have:=Es.out;omega);clear hfr;go_upto_region 13 with(fail)
     go_wp2_with (at_builtin;refine lM (m:=1) rfl _ _ rfl BL AK.out HJ.1.sz rfl [.int .i64 f.x,.int .i64 f.y,.int .i64 f.w,.int .i64 f.h,.slice Al k cl] rfl rfl (by simp[Value.oneCell']) oA (by omega) ?_;intro A9 c9 w9 qp My ym D1;have qV:=X6 (HJ.1.Xf AK.out ym qp);have HY9:=X6 (HJ.1.y.grown ym (λe=>lD AK.out HJ.1.y (by decide) e.symm));clear qp My ym D1 y0 y1 y2 y3 yl q0 q1 q2 q3 q4 ql;obtain⟨y0,y1,y2,y3⟩:=HY9.c4;have yl:=HY9.lt;have yf:=HY9.frozen);go_roundw;case rel=>exact⟨i+1,A9,c9,by have:=Es.out;omega,by go_num,qV⟩
     case measure=>have:=Es.out;simp[intOf];omega
    have e0:decide ((k:Int)<(f.ls.length:Int))=true:=YC (by omega);have Mc:decide (k<f.ls.length)=true:=YC nF;have Fe:(k:Int)<(f.ls.length:Int):=(by omega);have Hb:=X6 nF;obtain⟨ln,hle⟩:∃x,x=f.ls[k]:=⟨_,rfl⟩;have Qj:Hid (∀W,Below w1.heap.size w1 W->(∃ad,f.A=some ad/\ad.block<W.heap.size/\W.cell? (ad.add (k*3))=ln.y/\W.cell? ⟨ad.block,(ad.add (k*3)).off+1,none⟩=some (.int .i64 ln.h)/\W.cell? ⟨ad.block,(ad.add (k*3)).off+2,none⟩=some (.slice ln.A ln.ps.length ln.c))/\Ul B0 W ln):=X6 (λW hb=>by have h:=(VL.out W hb).2.2;rw[hle];exact⟨(Reads.mo h.o).lnQ rfl Hb.out,h.l _ (YJ _)⟩);obtain⟨⟨al,hal,alb,l0,l1,l2⟩,Tp⟩:=Qj.out _ HJ.1.b;rw[hal]at f4;have XV:Hid (ln.ps.length<=4294967296):=X6 (Sf Tp);clear hle nF Tp;go_upto_region 11 with(fail)
    have Ik:Hid (C0 w1.heap.size n nW A3 A7 qz c3 c7 oN Ag cg i w1 (wr.alloc (.cells #[ln.y,ln.h,.slice ln.A ln.ps.length ln.c] 79))/\Tr w1.heap.size Ag cg i g5 (.int .i64 f.x) (.int .i64 f.y) (.int .i64 f.w) (.int .i64 f.h) Al cl k (wr.alloc (.cells #[ln.y,ln.h,.slice ln.A ln.ps.length ln.c] 79))/\lq (wr.alloc (.cells #[ln.y,ln.h,.slice ln.A ln.ps.length ln.c] 79)) wr.heap.size 79 #[ln.y,ln.h,.slice ln.A ln.ps.length ln.c]/\w1.heap.size<=wr.heap.size/\∀g,(Value.slice Al k cl).ownBlock=some g->g<wr.heap.size):=X6 ⟨HJ.1.lR bA,HJ.2.lR bA,lq.new _ _ _,HJ.1.sz,λg e=>by obtain⟨xs,k⟩:=HJ.2.l;exact(k.lt g e).2⟩;obtain⟨g7,xT⟩:∃g,g=wr.heap.size:=⟨_,rfl⟩;rw[<-xT]at Ik⊢;clear xT HJ x3 xl f4 fl alb l0 l1 l2 hal;generalize World.alloc wr _=w8 at Ik⊢;obtain⟨q0,q1,q2⟩:=Ik.2.2.1.c3;have ql:=Ik.2.2.1.lt;go_upto_region 12 with(first | (at_builtin;refine Js rfl _ _ rfl Mu _ rfl (rZ ln.ps) rfl ((Reads.mo (Rx (Qj.out _ (Ik.1.b.trans (bA.mono Ik.1.sz))).2))) XV.out (by omega) ?_;intro Ap cp w9 mH;have Ko:=((ZN w8.heap.size w8).alloc (X7 _) (.cells #[] 237)).trans (mH.mono (by simp));have Gv:=X6 (And.intro (Ik.1.lR Ko) (And.intro (Ik.2.1.lR Ko) (Ik.2.2.1.below Ko Ik.2.2.1.lt)));clear Ko mH q0 q1 q2 ql;obtain⟨q0,q1,q2⟩:=Gv.2.2.c3;have ql:=Gv.2.2.lt;have qf:=Gv.2.2.frozen))
    have rQ:Hid (C0 w1.heap.size n nW A3 A7 qz c3 c7 oN Ag cg i w1 (w9.setCell (g7,2) (.slice Ap ln.ps.length cp))/\Tr w1.heap.size Ag cg i g5 (.int .i64 f.x) (.int .i64 f.y) (.int .i64 f.w) (.int .i64 f.h) Al cl k (w9.setCell (g7,2) (.slice Ap ln.ps.length cp))/\lq (w9.setCell (g7,2) (.slice Ap ln.ps.length cp)) g7 79 #[ln.y,ln.h,.slice Ap ln.ps.length cp]):=X6 ⟨Gv.1.oth Gv.2.2 Ik.2.2.2.1 (by decide) (by decide) (by decide) (by decide) (by decide) 2 _,Gv.2.1.oth Gv.2.2 (by decide) (.inr Ik.2.2.2.2) 2 _,Gv.2.2.lA 2 _⟩;clear q0 q1 q2 ql qf Gv Ik;generalize World.setCell w9 _ _=sy at rQ⊢;obtain⟨q0,q1,q2⟩:=rQ.2.2.c3;have ql:=rQ.2.2.lt;obtain⟨r0,r1,r2,r3,r4⟩:=rQ.2.1.f.c5;have rl:=rQ.2.1.f.lt;obtain⟨xs,hlr⟩:=rQ.2.1.l;have HLR:=X6 hlr;have oA:k+1<=4294967296:=(by have:=ru.out;have:=Hb.out;omega);clear hlr;go_wp2_with (at_builtin;refine lM (m:=1) rfl _ _ rfl Uw HLR.out rQ.1.sz rfl [.int .i64 ln.y,.int .i64 ln.h,.slice Ap ln.ps.length cp] rfl rfl (by simp[Value.oneCell']) oA (by omega) ?_;intro A9 c9 xM qp My ym D1;have qV:=X6 (rQ.1.appL rQ.2.1 ym qp);have HY9:=X6 (rQ.2.1.f.grown ym (λe=>lD HLR.out rQ.2.1.f (by decide) e.symm));clear qp My ym D1 q0 q1 q2 ql r0 r1 r2 r3 r4 rl;obtain⟨r0,r1,r2,r3,r4⟩:=HY9.c5;have rl:=HY9.lt;have rf:=HY9.frozen);go_roundw;case rel=>exact⟨k+1,A9,c9,by have:=Hb.out;omega,by go_num,qV⟩
    case measure=>have:=Hb.out;simp[intOf];omega
end Go.Proofs.YtjhingednpjogaaGreat
