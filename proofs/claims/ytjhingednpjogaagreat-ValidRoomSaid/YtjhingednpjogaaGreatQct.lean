/- Lemmas for ValidRoom; laid together by a program. -/
import Derived.Test.YtjhingednpjogaaGreatQs
import Derived.Test.YtjhingednpjogaaGreatQlp
set_option linter.all false
set_option maxRecDepth 100000
set_option maxHeartbeats 8000000
open Go.RowKit
namespace Go.Proofs.YtjhingednpjogaaGreat
open Go.Proofs.Tryz
section
attribute [local go_sem] lp
theorem nT.oth{C:Qx}{a s1 s2:Int}{Af:Option Addr}{cf:Nat}{fl:List Fl}{W W':World}(h:nT C a s1 s2 Af cf fl W)(hC:nJ C)(hb:Below C.B W W')(k1:Kt 181 C.B W W')(k2:Kt 2 C.B W W')(k3:Kt 263 C.B W W'):nT C a s1 s2 Af cf fl W':=by
 have hl:=λg hg=>(hC.lw g hg).2.1;have hk:=hC.kb;have hw:=hC.lw C.bw (by simp[Qx.arr]);exact⟨h.qB.below hb (hl _ (by simp[Qx.arr])),k1.own (X7 _) h.fo,h.op.below hb (hl _ (by simp[Qx.arr])),h.x.below hb (hl _ (by simp[Qx.arr])),h.y.below hb (hl _ (by simp[Qx.arr])),h.h.below hb (hl _ (by simp[Qx.arr])),
  h.r.kept (λ_ hc=>hc.below hb (hl _ (by simp[Qx.arr]))) k2 k3,λp Nw L5=>(hb.cell (p:=p) (by omega)).trans (h.kd p Nw L5),h.b.trans (hb.mono (by omega)),YL h.sz hb.size⟩
def BI(bs:List Bool):List Value:=bs.map Value.bool
theorem Gl(l:List Bool)(x:Bool):BI (l++[x])=BI l++[.bool x]:=by simp[BI]
structure zd(C:Qx)(a s1 s2:Int)(Aw:Option Addr)(cw:Nat)(fl:List Fl)(gi:Nat)(An:Option Addr)(cn:Nat)(ns:List Nat)(hi:Int)(lv ov:Value)(Ag:Option Addr)(cg:Nat)(fs:List uF)(Ab:Option Addr)(cb:Nat)(bs:List Bool)(W:World):Prop where
 w:nT C a s1 s2 Aw cw fl W
 i:lq W gi 55 #[.slice An ns.length cn,.slice Ag fs.length cg,.slice Ab bs.length cb,hi,lv,ov]
 ge:C.B<=gi
 n:W.ownsRow C.B 3 1 (.slice An ns.length cn) ns.length (nA ns)
 f:W.ownsRow C.B 43 5 (.slice Ag fs.length cg) fs.length (lO fs)
 fo:∀f∈fs,qT C.B W f
 b:W.ownsRow C.B 4 1 (.slice Ab bs.length cb) bs.length (BI bs)
structure OB(C:Qx)(Ag:Option Addr)(cg:Nat)(fs:List uF)(gf:Nat)(cs:Array Value)(W:World):Prop where
 b:lq W gf 43 cs
 ge:C.B<=gf
 ne:∀g,(Value.slice Ag fs.length cg).ownBlock=some g->g<gf
section
variable{C:Qx}{a s1 s2:Int}{Aw:Option Addr}{cw:Nat}{fl:List Fl}{gi:Nat}{An:Option Addr}{cn:Nat}{ns:List Nat}{hi:Int}{lv ov:Value}{Ag:Option Addr}{cg:Nat}{fs:List uF}{Ab:Option Addr}{cb:Nat}{bs:List Bool}{W W':World}
theorem zd.lR(h:zd C a s1 s2 Aw cw fl gi An cn ns hi lv ov Ag cg fs Ab cb bs W)(hC:nJ C)(hb:Below W.heap.size W W'):zd C a s1 s2 Aw cw fl gi An cn ns hi lv ov Ag cg fs Ab cb bs W':=
 ⟨h.w.below hC hb,h.i.below hb h.i.lt,h.ge,lG h.n hb,lG h.f hb,λf hf=>(h.fo f hf).kept (Kt.below hb) (Kt.below hb),lG h.b hb⟩
theorem OB.lR{gf:Nat}{cs:Array Value}(h:OB C Ag cg fs gf cs W)(hb:Below W.heap.size W W'):OB C Ag cg fs gf cs W':=⟨h.b.below hb h.b.lt,h.ge,h.ne⟩
theorem OB.new(h:zd C a s1 s2 Aw cw fl gi An cn ns hi lv ov Ag cg fs Ab cb bs W)(cs:Array Value):OB C Ag cg fs W.heap.size cs (W.alloc (.cells cs 43)):=⟨lq.new _ _ _,h.w.sz,λg e=>(h.f.lt g e).2⟩
theorem zd.via(h:zd C a s1 s2 Aw cw fl gi An cn ns hi lv ov Ag cg fs Ab cb bs W)(hC:nJ C)(hb:Below C.B W W')(kt:∀t,t≠43->t≠4->t≠55->Kt t C.B W W') {LC:Int} {Vs Wq:Value} {Ag':Option Addr} {cg':Nat} {I7:List uF} {Ab':Option Addr} {Yy:Nat} {V1:List Bool} (h1:lq W' gi 55 #[.slice An ns.length cn,.slice Ag' I7.length cg',.slice Ab' V1.length Yy,LC,Vs,Wq]) (h2:W'.ownsRow C.B 43 5 (.slice Ag' I7.length cg') I7.length (lO I7)) (h3:W'.ownsRow C.B 4 1 (.slice Ab' V1.length Yy) V1.length (BI V1)) (h4:∀f∈I7,qT C.B W' f):zd C a s1 s2 Aw cw fl gi An cn ns LC Vs Wq Ag' cg' I7 Ab' Yy V1 W':=
 ⟨h.w.oth hC hb (kt _ (by decide) (by decide) (by decide)) (kt _ (by decide) (by decide) (by decide)) (kt _ (by decide) (by decide) (by decide)),h1,h.ge,(kt _ (by decide) (by decide) (by decide)).own (X7 _) h.n,h2,h4,h3⟩
theorem zd.put(h:zd C a s1 s2 Aw cw fl gi An cn ns hi lv ov Ag cg fs Ab cb bs W)(hC:nJ C)(j:Nat)(u:Value){LC:Int}{Vs Wq:Value}(he:(#[.slice An ns.length cn,.slice Ag fs.length cg,.slice Ab bs.length cb,.int .i64 hi,lv,ov]:Array Value).setIfInBounds j u= #[.slice An ns.length cn,.slice Ag fs.length cg,.slice Ab bs.length cb,.int .i64 LC,Vs,Wq]): zd C a s1 s2 Aw cw fl gi An cn ns LC Vs Wq Ag cg fs Ab cb bs (W.setCell (gi,j) u):=by have kt:∀t,t≠55->Kt t C.B W (W.setCell (gi,j) u):=λt ht=>Kt.setCell (p:=(gi,j)) u (.inr ⟨_,_,ht,h.i⟩);refine h.via hC ((ZN _ _).setCell (p:=(gi,j)) h.ge u) (λt _ _ ht=>kt t ht) (he▸h.i.lA j u) (ZP h.f (a:=⟨gi,j,none⟩) (λe=>lD h.f h.i (by decide) e) u) (ZP h.b (a:=⟨gi,j,none⟩) (λe=>lD h.b h.i (by decide) e) u) (λf hf=>(h.fo f hf).kept (kt _ (by decide)) (kt _ (by decide)))
theorem zd.Xf(h:zd C a s1 s2 Aw cw fl gi An cn ns hi lv ov Ag cg fs Ab cb bs W)(hC:nJ C){f:uF}(hf:qT C.B W f){A':Option Addr}{c':Nat}(hg:W.grownBy W' (Value.slice Ag fs.length cg).ownBlock)(ho:W'.ownsRow C.B 43 5 (.slice A' (fs.length+1) c') (fs.length+1) (lO fs++mq f)): zd C a s1 s2 Aw cw fl gi An cn ns hi lv ov A' c' (fs++[f]) Ab cb bs (W'.setCell (gi,1) (.slice A' (fs.length+1) c')):=by
 have hl:(fs++[f]).length=fs.length+1:=by simp
 have hc:lO (fs++[f])=lO fs++mq f:=yn _ _;have FC:=h.i.grown hg (λe=>lD h.f h.i (by decide) e.symm);have kt:∀t,t≠43->t≠55->Kt t C.B W (W'.setCell (gi,1) (.slice A' (fs.length+1) c')):=λt h1 h2=>(Kt.grown hg λg e=> .inr (by obtain⟨cs,hc⟩:=rS h.f e;exact⟨cs,_,h1,hc⟩)).trans (Kt.setCell (p:=(gi,1)) _ (.inr ⟨_,_,h2,FC⟩));refine h.via hC (((ZN _ _).grown hg h.w.sz (λg e=>(h.f.lt g e).1)).setCell (p:=(gi,1)) h.ge _) (λt h1 _ h3=>kt t h1 h3) ?_ ?_ ((kt _ (by decide) (by decide)).own (X7 _) h.b) (λf' hm=>?_)
 ·rw[hl];exact FC.lA 1 _
 ·rw[hl,hc];exact ZP ho (a:=⟨gi,1,none⟩) (λe=>lD ho FC (by decide) e) _
 ·rcases YW.1 hm with hm | hm
  ·exact(h.fo f' hm).kept (kt _ (by decide) (by decide)) (kt _ (by decide) (by decide))
  ·simp only[Y7,ZD,DA]at hm;subst hm;exact hf.kept (kt _ (by decide) (by decide)) (kt _ (by decide) (by decide))
theorem zd.P8(h:zd C a s1 s2 Aw cw fl gi An cn ns hi lv ov Ag cg fs Ab cb bs W)(hC:nJ C){x:Bool}{A':Option Addr}{c':Nat}(hg:W.grownBy W' (Value.slice Ab bs.length cb).ownBlock)(ho:W'.ownsRow C.B 4 1 (.slice A' (bs.length+1) c') (bs.length+1) (BI bs++[.bool x])): zd C a s1 s2 Aw cw fl gi An cn ns hi lv ov Ag cg fs A' c' (bs++[x]) (W'.setCell (gi,2) (.slice A' (bs.length+1) c')):=by
 have hl:(bs++[x]).length=bs.length+1:=by simp
 have FC:=h.i.grown hg (λe=>lD h.b h.i (by decide) e.symm);have kt:∀t,t≠4->t≠55->Kt t C.B W (W'.setCell (gi,2) (.slice A' (bs.length+1) c')):=λt h1 h2=>(Kt.grown hg λg e=> .inr (by obtain⟨cs,hc⟩:=rS h.b e;exact⟨cs,_,h1,hc⟩)).trans (Kt.setCell (p:=(gi,2)) _ (.inr ⟨_,_,h2,FC⟩));refine h.via hC (((ZN _ _).grown hg h.w.sz (λg e=>(h.b.lt g e).1)).setCell (p:=(gi,2)) h.ge _) (λt _ h2 h3=>kt t h2 h3) ?_ ((kt _ (by decide) (by decide)).own (X7 _) h.f) ?_ (λf' hm=>(h.fo f' hm).kept (kt _ (by decide) (by decide)) (kt _ (by decide) (by decide)))
 ·rw[hl];exact FC.lA 2 _
 ·rw[hl,Gl];exact ZP ho (a:=⟨gi,2,none⟩) (λe=>lD ho FC (by decide) e) _
theorem zd.tG(h:zd C a s1 s2 Aw cw fl gi An cn ns hi lv ov Ag cg fs Ab cb bs W)(hC:nJ C){gf:Nat}{cs:Array Value}(hf:OB C Ag cg fs gf cs W)(j:Nat)(u:Value):zd C a s1 s2 Aw cw fl gi An cn ns hi lv ov Ag cg fs Ab cb bs (W.setCell (gf,j) u)/\OB C Ag cg fs gf (cs.setIfInBounds j u) (W.setCell (gf,j) u):=by have kt:∀t,t≠43->Kt t C.B W (W.setCell (gf,j) u):=λt ht=>Kt.setCell (p:=(gf,j)) u (.inr ⟨_,_,ht,hf.b⟩);exact⟨h.via hC ((ZN _ _).setCell (p:=(gf,j)) hf.ge u) (λt ht _ _=>kt t ht) (h.i.lQ (p:=(gf,j)) (h.i.se hf.b (by decide)) u) (ZP h.f (a:=⟨gf,j,none⟩) (λe=>by have:=hf.ne _ e;simp only at this;omega) u) ((kt _ (by decide)).own (X7 _) h.b) (λf hm=>(h.fo f hm).kept (kt _ (by decide)) (kt _ (by decide))),⟨hf.b.lA j u,hf.ge,hf.ne⟩⟩
theorem zd.IN(h:zd C a s1 s2 Aw cw fl gi An cn ns hi lv ov Ag cg fs Ab cb bs W)(hC:nJ C){gf:Nat}{v0 v1 v2 v3 v4:Value}(hf:OB C Ag cg fs gf #[v0,v1,v2,v3,v4] W)(u0 u1 u2 u3 u4:Value): zd C a s1 s2 Aw cw fl gi An cn ns hi lv ov Ag cg fs Ab cb bs (((((W.setCell (gf,0) u0).setCell (gf,1) u1).setCell (gf,2) u2).setCell (gf,3) u3).setCell (gf,4) u4)/\OB C Ag cg fs gf #[u0,u1,u2,u3,u4] (((((W.setCell (gf,0) u0).setCell (gf,1) u1).setCell (gf,2) u2).setCell (gf,3) u3).setCell (gf,4) u4):=by have h0:=h.tG hC hf 0 u0;have h1:=h0.1.tG hC h0.2 1 u1;have h2:=h1.1.tG hC h1.2 2 u2;have h3:=h2.1.tG hC h2.2 3 u3;exact h3.1.tG hC h3.2 4 u4
structure Kk(C:Qx)(cx cy ch:Array Value)(W:World):Prop where
 x:lq W C.gx 2 cx
 y:lq W C.gy 2 cy
 h:lq W C.gh 2 ch
theorem Kk.lR{cx cy ch:Array Value}(h:Kk C cx cy ch W)(hb:Below W.heap.size W W'):Kk C cx cy ch W':=⟨h.x.below hb h.x.lt,h.y.below hb h.y.lt,h.h.below hb h.h.lt⟩
theorem Kk.lQ{cx cy ch:Array Value}(h:Kk C cx cy ch W){g:Nat}(hg:C.gx≠g/\C.gy≠g/\C.gh≠g)(j:Nat)(u:Value):Kk C cx cy ch (W.setCell (g,j) u):=⟨h.x.lQ (p:=(g,j)) hg.1 u,h.y.lQ (p:=(g,j)) hg.2.1 u,h.h.lQ (p:=(g,j)) hg.2.2 u⟩
theorem Kk.IN{cx cy ch:Array Value}(h:Kk C cx cy ch W){g:Nat}(hg:C.gx≠g/\C.gy≠g/\C.gh≠g)(u0 u1 u2 u3 u4:Value):Kk C cx cy ch (((((W.setCell (g,0) u0).setCell (g,1) u1).setCell (g,2) u2).setCell (g,3) u3).setCell (g,4) u4):=((((h.lQ hg 0 u0).lQ hg 1 u1).lQ hg 2 u2).lQ hg 3 u3).lQ hg 4 u4
theorem nT.xyh(h:nT C a s1 s2 Aw cw fl W){k p:Nat}(hk:k<C.l.length)(hp:p<C.l.length):∃(cx cy ch:Array Value) (x y hh x2 y2:Int),Kk C cx cy ch W/\cx[k]? =some (.int .i64 x)/\cy[k]? =some (.int .i64 y)/\ch[k]? =some (.int .i64 hh)/\cx[p]? =some (.int .i64 x2)/\cy[p]? =some (.int .i64 y2):=by obtain⟨cx,h1,_,h2⟩:=h.x;obtain⟨cy,h3,_,h4⟩:=h.y;obtain⟨ch,h5,_,h6⟩:=h.h;obtain⟨x,hx⟩:=h2 k hk;obtain⟨y,hy⟩:=h4 k hk;obtain⟨hh,hhh⟩:=h6 k hk;obtain⟨x2,wC⟩:=h2 p hp;obtain⟨y2,JQ⟩:=h4 p hp;exact⟨cx,cy,ch,x,y,hh,x2,y2,⟨h1,h3,h5⟩,hx,hy,hhh,wC,JQ⟩
end
end
section
attribute [local go_sem] lp
theorem N8(l:List me)(x:me):nh (l++[x])=nh l++lj x:=by simp[nh]
theorem QB(l:List Cn)(x:Cn):ly (l++[x])=ly l++mP x:=by simp[ly]
theorem Ms(l:List Int)(x:Int):lY (l++[x])=lY l++[.int .i64 x]:=by simp[lY]
structure DJ(B:Nat)(w3:World)(gi:Nat)(An:Option Addr)(cn:Nat)(ns:List Nat)(A1 A2 A3 A4:Option Addr)(c1 c2 c3 c4:Nat)(ks:List me)(us:List Ft)(gs:List Cn)(hs:List Int)(W:World):Prop where
 b:Below B w3 W
 sz:B<=W.heap.size
 i:lq W gi 55 #[.slice An ns.length cn,lH,lH,lx,lH,false]
 ge:B<=gi
 n:W.ownsRow B 3 1 (.slice An ns.length cn) ns.length (nA ns)
 k:W.ownsRow B 63 43 (.slice A1 ks.length c1) ks.length (nh ks)
 u:W.ownsRow B 40 3 (.slice A2 us.length c2) us.length (nC us)
 c:W.ownsRow B 38 4 (.slice A3 gs.length c3) gs.length (ly gs)
 h:W.ownsRow B 2 1 (.slice A4 hs.length c4) hs.length (lY hs)
section
variable{B:Nat}{w3:World}{gi:Nat}{An A1 A2 A3 A4:Option Addr}{cn c1 c2 c3 c4:Nat}{ns:List Nat}{ks:List me}{us:List Ft}{gs:List Cn}{hs:List Int}{W W':World}
theorem DJ.lR(h:DJ B w3 gi An cn ns A1 A2 A3 A4 c1 c2 c3 c4 ks us gs hs W)(hb:Below W.heap.size W W'):DJ B w3 gi An cn ns A1 A2 A3 A4 c1 c2 c3 c4 ks us gs hs W':=
 ⟨h.b.trans (hb.mono h.sz),YL h.sz hb.size,h.i.below hb h.i.lt,h.ge,lG h.n hb,lG h.k hb,lG h.u hb,lG h.c hb,lG h.h hb⟩
theorem wJ{t:TypeId}{size n:Nat}{v:Value}{xs:List Value}(ho:W.ownsRow B t size v n xs)(hg:W.grownBy W' v.ownBlock):∀t',t'≠t->Kt t' B W W':=λt' mI=>Kt.grown hg λg e=> .inr (by
 obtain⟨cs,hc⟩:=rS ho e;exact⟨cs,_,mI,hc⟩)
theorem DJ.appK(h:DJ B w3 gi An cn ns A1 A2 A3 A4 c1 c2 c3 c4 ks us gs hs W){x:me}{A':Option Addr}{c':Nat}(hg:W.grownBy W' (Value.slice A1 ks.length c1).ownBlock)(ho:W'.ownsRow B 63 43 (.slice A' (ks.length+1) c') (ks.length+1) (nh ks++lj x)):DJ B w3 gi An cn ns A' A2 A3 A4 c' c2 c3 c4 (ks++[x]) us gs hs W':=by have kt:=wJ h.k hg;exact⟨h.b.grown hg h.sz (λg e=>(h.k.lt g e).1),YL h.sz hg.size,h.i.grown hg (λe=>lD h.k h.i (by decide) e.symm),h.ge,(kt _ (by decide)).own (X7 _) h.n,by rw[N8,YM];exact ho,(kt _ (by decide)).own (X7 _) h.u,(kt _ (by decide)).own (X7 _) h.c,(kt _ (by decide)).own (X7 _) h.h⟩
theorem DJ.appU(h:DJ B w3 gi An cn ns A1 A2 A3 A4 c1 c2 c3 c4 ks us gs hs W){x:Ft}{A':Option Addr}{c':Nat}(hg:W.grownBy W' (Value.slice A2 us.length c2).ownBlock)(ho:W'.ownsRow B 40 3 (.slice A' (us.length+1) c') (us.length+1) (nC us++sE x)):DJ B w3 gi An cn ns A1 A' A3 A4 c1 c' c3 c4 ks (us++[x]) gs hs W':=by have kt:=wJ h.u hg;exact⟨h.b.grown hg h.sz (λg e=>(h.u.lt g e).1),YL h.sz hg.size,h.i.grown hg (λe=>lD h.u h.i (by decide) e.symm),h.ge,(kt _ (by decide)).own (X7 _) h.n,(kt _ (by decide)).own (X7 _) h.k,by rw[FB,YM];exact ho,(kt _ (by decide)).own (X7 _) h.c,(kt _ (by decide)).own (X7 _) h.h⟩
theorem DJ.appC(h:DJ B w3 gi An cn ns A1 A2 A3 A4 c1 c2 c3 c4 ks us gs hs W){x:Cn}{A':Option Addr}{c':Nat}(hg:W.grownBy W' (Value.slice A3 gs.length c3).ownBlock)(ho:W'.ownsRow B 38 4 (.slice A' (gs.length+1) c') (gs.length+1) (ly gs++mP x)):DJ B w3 gi An cn ns A1 A2 A' A4 c1 c2 c' c4 ks us (gs++[x]) hs W':=by have kt:=wJ h.c hg;exact⟨h.b.grown hg h.sz (λg e=>(h.c.lt g e).1),YL h.sz hg.size,h.i.grown hg (λe=>lD h.c h.i (by decide) e.symm),h.ge,(kt _ (by decide)).own (X7 _) h.n,(kt _ (by decide)).own (X7 _) h.k,(kt _ (by decide)).own (X7 _) h.u,by rw[QB,YM];exact ho,(kt _ (by decide)).own (X7 _) h.h⟩
theorem DJ.appH(h:DJ B w3 gi An cn ns A1 A2 A3 A4 c1 c2 c3 c4 ks us gs hs W){x:Int}{A':Option Addr}{c':Nat}(hg:W.grownBy W' (Value.slice A4 hs.length c4).ownBlock)(ho:W'.ownsRow B 2 1 (.slice A' (hs.length+1) c') (hs.length+1) (lY hs++[.int .i64 x])):DJ B w3 gi An cn ns A1 A2 A3 A' c1 c2 c3 c' ks us gs (hs++[x]) W':=by have kt:=wJ h.h hg;exact⟨h.b.grown hg h.sz (λg e=>(h.h.lt g e).1),YL h.sz hg.size,h.i.grown hg (λe=>lD h.h h.i (by decide) e.symm),h.ge,(kt _ (by decide)).own (X7 _) h.n,(kt _ (by decide)).own (X7 _) h.k,(kt _ (by decide)).own (X7 _) h.u,(kt _ (by decide)).own (X7 _) h.c,by rw[Ms,YM];exact ho⟩
end
structure Bc(B D:Nat)(w3:World)(gi:Nat)(An:Option Addr)(cn:Nat)(ns:List Nat)(gf gb nf:Nat)(hi:Int)(lv ov:Value)(Ag:Option Addr)(cg:Nat)(fs:List uF)(Ab:Option Addr)(cb:Nat)(bs:List Bool)(W:World):Prop where
 b:Below B w3 W
 sz:D<=W.heap.size
 BD:B<=D
 i:lq W gi 55 #[.slice An ns.length cn,.slice Ag fs.length cg,.slice Ab bs.length cb,hi,lv,ov]
 ge:B<=gi
 n:W.ownsRow B 3 1 (.slice An ns.length cn) ns.length (nA ns)
 f0:qX B W gf nf
 fl:gf<D
 b0:pq W gb nf
 bl:gb<D
 f:W.ownsRow D 43 5 (.slice Ag fs.length cg) fs.length (lO fs)
 fo:∀f∈fs,qT B W f
 o:W.ownsRow D 4 1 (.slice Ab bs.length cb) bs.length (BI bs)
structure Rh(D:Nat)(Ag:Option Addr)(cg:Nat)(fs:List uF)(gf:Nat)(cs:Array Value)(W:World):Prop where
 b:lq W gf 43 cs
 ge:D<=gf
 ne:∀g,(Value.slice Ag fs.length cg).ownBlock=some g->g<gf
section
variable{B D:Nat}{w3:World}{gi:Nat}{An:Option Addr}{cn:Nat}{ns:List Nat}{gf gb nf:Nat}{hi:Int}{lv ov:Value}{Ag:Option Addr}{cg:Nat}{fs:List uF}{Ab:Option Addr}{cb:Nat}{bs:List Bool}{W W':World}
theorem pq.kept{g n:Nat}(h:pq W g n)(hw:∀cs,lq W g 4 cs->lq W' g 4 cs):pq W' g n:=by obtain⟨cs,h1,h2⟩:=h;exact⟨cs,hw _ h1,h2⟩
theorem Bc.lR(h:Bc B D w3 gi An cn ns gf gb nf hi lv ov Ag cg fs Ab cb bs W)(hb:Below W.heap.size W W'):Bc B D w3 gi An cn ns gf gb nf hi lv ov Ag cg fs Ab cb bs W':=
 ⟨h.b.trans (hb.mono (YL h.BD h.sz)),YL h.sz hb.size,h.BD,h.i.below hb h.i.lt,h.ge,lG h.n hb,h.f0.below hb,h.fl,h.b0.kept (λ_ hc=>hc.below hb hc.lt),h.bl,lG h.f hb,λf hf=>(h.fo f hf).kept (Kt.below hb) (Kt.below hb),lG h.o hb⟩
theorem Rh.lR{gq:Nat}{cs:Array Value}(h:Rh D Ag cg fs gq cs W)(hb:Below W.heap.size W W'):Rh D Ag cg fs gq cs W':=⟨h.b.below hb h.b.lt,h.ge,h.ne⟩
theorem Rh.new(h:Bc B D w3 gi An cn ns gf gb nf hi lv ov Ag cg fs Ab cb bs W)(cs:Array Value):Rh D Ag cg fs W.heap.size cs (W.alloc (.cells cs 43)):=⟨lq.new _ _ _,h.sz,λg e=>(h.f.lt g e).2⟩
theorem Bc.via(h:Bc B D w3 gi An cn ns gf gb nf hi lv ov Ag cg fs Ab cb bs W)(hb:Below B w3 W')(hz:W.heap.size<=W'.heap.size)(kt:∀t,t≠43->t≠4->t≠55->Kt t B W W')(hf0:∀cs,lq W gf 43 cs->lq W' gf 43 cs)(KS:∀cs,lq W gb 4 cs->lq W' gb 4 cs) {LC:Int} {Vs Wq:Value} {Ag':Option Addr} {cg':Nat} {I7:List uF} {Ab':Option Addr} {Yy:Nat} {V1:List Bool} (h1:lq W' gi 55 #[.slice An ns.length cn,.slice Ag' I7.length cg',.slice Ab' V1.length Yy,LC,Vs,Wq]) (h2:W'.ownsRow D 43 5 (.slice Ag' I7.length cg') I7.length (lO I7)) (h3:W'.ownsRow D 4 1 (.slice Ab' V1.length Yy) V1.length (BI V1)) (h4:∀f∈I7,qT B W' f):Bc B D w3 gi An cn ns gf gb nf LC Vs Wq Ag' cg' I7 Ab' Yy V1 W':=
 ⟨hb,YL h.sz hz,h.BD,h1,h.ge,(kt _ (by decide) (by decide) (by decide)).own (X7 _) h.n,h.f0.kept hf0 (kt _ (by decide) (by decide) (by decide)) (kt _ (by decide) (by decide) (by decide)),h.fl,h.b0.kept KS,h.bl,h2,h4,h3⟩
theorem size_set(W:World)(p:Addr)(u:Value):W.heap.size<=(W.setCell p u).heap.size:=by simp[World.setCell]
theorem Bc.put(h:Bc B D w3 gi An cn ns gf gb nf hi lv ov Ag cg fs Ab cb bs W)(j:Nat)(u:Value){LC:Int}{Vs Wq:Value}(he:(#[.slice An ns.length cn,.slice Ag fs.length cg,.slice Ab bs.length cb,.int .i64 hi,lv,ov]:Array Value).setIfInBounds j u= #[.slice An ns.length cn,.slice Ag fs.length cg,.slice Ab bs.length cb,.int .i64 LC,Vs,Wq]): Bc B D w3 gi An cn ns gf gb nf LC Vs Wq Ag cg fs Ab cb bs (W.setCell (gi,j) u):=by have kt:∀t,t≠55->Kt t B W (W.setCell (gi,j) u):=λt ht=>Kt.setCell (p:=(gi,j)) u (.inr ⟨_,_,ht,h.i⟩);exact h.via (h.b.setCell (p:=(gi,j)) h.ge u) (size_set _ _ _) (λt _ _ ht=>kt t ht) (λcs hc=>hc.lQ (p:=(gi,j)) (hc.se h.i (by decide)) u) (λcs hc=>hc.lQ (p:=(gi,j)) (hc.se h.i (by decide)) u) (he▸h.i.lA j u) (ZP h.f (a:=⟨gi,j,none⟩) (λe=>lD h.f h.i (by decide) e) u) (ZP h.o (a:=⟨gi,j,none⟩) (λe=>lD h.o h.i (by decide) e) u) (λf hf=>(h.fo f hf).kept (kt _ (by decide)) (kt _ (by decide)))
theorem Bc.Xf(h:Bc B D w3 gi An cn ns gf gb nf hi lv ov Ag cg fs Ab cb bs W){f:uF}(hf:qT B W f){A':Option Addr}{c':Nat}(hg:W.grownBy W' (Value.slice Ag fs.length cg).ownBlock)(ho:W'.ownsRow D 43 5 (.slice A' (fs.length+1) c') (fs.length+1) (lO fs++mq f)): Bc B D w3 gi An cn ns gf gb nf hi lv ov A' c' (fs++[f]) Ab cb bs (W'.setCell (gi,1) (.slice A' (fs.length+1) c')):=by
 have hl:(fs++[f]).length=fs.length+1:=by simp
 have hc:lO (fs++[f])=lO fs++mq f:=yn _ _;have FC:=h.i.grown hg (λe=>lD h.f h.i (by decide) e.symm);have hBD:=h.BD;have kt:∀t,t≠43->t≠55->Kt t B W (W'.setCell (gi,1) (.slice A' (fs.length+1) c')):=λt h1 h2=>(Kt.grown hg λg e=> .inr (by obtain⟨cs,hc⟩:=rS h.f e;exact⟨cs,_,h1,hc⟩)).trans (Kt.setCell (p:=(gi,1)) _ (.inr ⟨_,_,h2,FC⟩));refine h.via ((h.b.grown hg (YL hBD h.sz) (λg e=>YL hBD (h.f.lt g e).1)).setCell (p:=(gi,1)) h.ge _) (YL hg.size (size_set _ _ _)) (λt h1 _ h3=>kt t h1 h3) (λcs hc=>?_) (λcs hc=>?_) ?_ ?_ (ZP ((wJ h.f hg _ (by decide)).own (X7 _) h.o) (a:=⟨gi,1,none⟩) (λe=>lD h.o h.i (by decide) e) _) (λf' hm=>?_)
 ·have h9:lq W' gf 43 cs:=hc.grown hg (λe=>by have:=(h.f.lt gf e.symm).1;have:=h.fl;omega);exact h9.lQ (p:=(gi,1)) (h9.se FC (by decide)) _
 ·have h9:lq W' gb 4 cs:=hc.grown hg (λe=>by have:=(h.f.lt gb e.symm).1;have:=h.bl;omega);exact h9.lQ (p:=(gi,1)) (h9.se FC (by decide)) _
 ·rw[hl];exact FC.lA 1 _
 ·rw[hl,hc];exact ZP ho (a:=⟨gi,1,none⟩) (λe=>lD ho FC (by decide) e) _
 ·rcases YW.1 hm with hm | hm
  ·exact(h.fo f' hm).kept (kt _ (by decide) (by decide)) (kt _ (by decide) (by decide))
  ·simp only[Y7,ZD,DA]at hm;subst hm;exact hf.kept (kt _ (by decide) (by decide)) (kt _ (by decide) (by decide))
theorem Bc.P8(h:Bc B D w3 gi An cn ns gf gb nf hi lv ov Ag cg fs Ab cb bs W){x:Bool}{A':Option Addr}{c':Nat}(hg:W.grownBy W' (Value.slice Ab bs.length cb).ownBlock)(ho:W'.ownsRow D 4 1 (.slice A' (bs.length+1) c') (bs.length+1) (BI bs++[.bool x])): Bc B D w3 gi An cn ns gf gb nf hi lv ov Ag cg fs A' c' (bs++[x]) (W'.setCell (gi,2) (.slice A' (bs.length+1) c')):=by
 have hl:(bs++[x]).length=bs.length+1:=by simp
 have FC:=h.i.grown hg (λe=>lD h.o h.i (by decide) e.symm);have hBD:=h.BD;have kt:∀t,t≠4->t≠55->Kt t B W (W'.setCell (gi,2) (.slice A' (bs.length+1) c')):=λt h1 h2=>(Kt.grown hg λg e=> .inr (by obtain⟨cs,hc⟩:=rS h.o e;exact⟨cs,_,h1,hc⟩)).trans (Kt.setCell (p:=(gi,2)) _ (.inr ⟨_,_,h2,FC⟩));refine h.via ((h.b.grown hg (YL hBD h.sz) (λg e=>YL hBD (h.o.lt g e).1)).setCell (p:=(gi,2)) h.ge _) (YL hg.size (size_set _ _ _)) (λt _ h2 h3=>kt t h2 h3) (λcs hc=>?_) (λcs hc=>?_) ?_ (ZP ((wJ h.o hg _ (by decide)).own (X7 _) h.f) (a:=⟨gi,2,none⟩) (λe=>lD h.f h.i (by decide) e) _) ?_ (λf' hm=>(h.fo f' hm).kept (kt _ (by decide) (by decide)) (kt _ (by decide) (by decide)))
 ·have h9:lq W' gf 43 cs:=hc.grown hg (λe=>by have:=(h.o.lt gf e.symm).1;have:=h.fl;omega);exact h9.lQ (p:=(gi,2)) (h9.se FC (by decide)) _
 ·have h9:lq W' gb 4 cs:=hc.grown hg (λe=>by have:=(h.o.lt gb e.symm).1;have:=h.bl;omega);exact h9.lQ (p:=(gi,2)) (h9.se FC (by decide)) _
 ·rw[hl];exact FC.lA 2 _
 ·rw[hl,Gl];exact ZP ho (a:=⟨gi,2,none⟩) (λe=>lD ho FC (by decide) e) _
theorem Bc.tG(h:Bc B D w3 gi An cn ns gf gb nf hi lv ov Ag cg fs Ab cb bs W){gq:Nat}{cs:Array Value}(hf:Rh D Ag cg fs gq cs W)(j:Nat)(u:Value):Bc B D w3 gi An cn ns gf gb nf hi lv ov Ag cg fs Ab cb bs (W.setCell (gq,j) u)/\Rh D Ag cg fs gq (cs.setIfInBounds j u) (W.setCell (gq,j) u):=by have kt:∀t,t≠43->Kt t B W (W.setCell (gq,j) u):=λt ht=>Kt.setCell (p:=(gq,j)) u (.inr ⟨_,_,ht,hf.b⟩);have hBD:=h.BD;have qU:=hf.ge;have Aj:=h.fl;exact⟨h.via (h.b.setCell (p:=(gq,j)) (YL hBD qU) u) (size_set _ _ _) (λt ht _ _=>kt t ht) (λcs hc=>hc.lQ (p:=(gq,j)) (by simp only;omega) u) (λcs hc=>hc.lQ (p:=(gq,j)) (hc.se hf.b (by decide)) u) (h.i.lQ (p:=(gq,j)) (h.i.se hf.b (by decide)) u) (ZP h.f (a:=⟨gq,j,none⟩) (λe=>by have:=hf.ne _ e;simp only at this;omega) u) (ZP h.o (a:=⟨gq,j,none⟩) (λe=>lD h.o hf.b (by decide) e) u) (λf Yg=>(h.fo f Yg).kept (kt _ (by decide)) (kt _ (by decide))),⟨hf.b.lA j u,hf.ge,hf.ne⟩⟩
theorem Bc.IN(h:Bc B D w3 gi An cn ns gf gb nf hi lv ov Ag cg fs Ab cb bs W){gq:Nat}{v0 v1 v2 v3 v4:Value}(hf:Rh D Ag cg fs gq #[v0,v1,v2,v3,v4] W)(u0 u1 u2 u3 u4:Value): Bc B D w3 gi An cn ns gf gb nf hi lv ov Ag cg fs Ab cb bs (((((W.setCell (gq,0) u0).setCell (gq,1) u1).setCell (gq,2) u2).setCell (gq,3) u3).setCell (gq,4) u4)/\Rh D Ag cg fs gq #[u0,u1,u2,u3,u4] (((((W.setCell (gq,0) u0).setCell (gq,1) u1).setCell (gq,2) u2).setCell (gq,3) u3).setCell (gq,4) u4):=by have h0:=h.tG hf 0 u0;have h1:=h0.1.tG h0.2 1 u1;have h2:=h1.1.tG h1.2 2 u2;have h3:=h2.1.tG h2.2 3 u3;exact h3.1.tG h3.2 4 u4
end
end
section
attribute [local go_sem] lp
theorem Ix(l:List Nd)(adv:List Int)(A A2:Option Addr)(c c2:Nat)(view ux uy uz hi:Int)(w:World)(hL:QI l adv A A2 w): Calls prog 39 #[.agg #[.slice A l.length c,.slice A2 adv.length c2,view],.agg #[ux,uy,uz],.int .i64 hi] w λe w'=>(∃(a b d h:Int) (be:Bool),e= .returned (.tuple #[.agg #[a,b,d,h,lH],be]))/\Below w.heap.size w w':=by
 have HL:=X6 hL;obtain⟨w1,mW⟩:∃W,W=((w.alloc (.cells #[.slice A l.length c,.slice A2 adv.length c2,view] 25)).alloc (.cells #[ux,uy,uz] 40)).alloc (.cells #[lx,lx,lx,lx,lH] 43):=⟨_,rfl⟩;have oW:Hid (lq w1 w.heap.size 25 #[.slice A l.length c,.slice A2 adv.length c2,view]/\lq w1 (w.heap.size+1) 40 #[ux,uy,uz]/\lq w1 (w.heap.size+1+1) 43 #[lx,lx,lx,lx,lH]):=X6 (by rw[mW];exact⟨((lq.new _ _ _).alloc _).alloc _,(lq.at_ _ _ _ (by simp)).alloc _,lq.at_ _ _ _ (by simp)⟩);have mA:Hid (Below w.heap.size w w1):=X6 (by rw[mW];exact(bA.alloc (by simp) _).alloc (by simp;omega) _);have Ie:Hid (w.heap.size+1+1<w1.heap.size):=X6 oW.2.2.lt;clear hL;go_enter func39,ntmps39;go_upto_region 1 with(fail)
 rw[<-mW];clear mW;obtain⟨t0,t1,t2⟩:=oW.1.c3;have tl:=oW.1.lt;have Gg:0<l.length:=HL.n.1;have Vq:(0:Int)<(l.length:Int):=by omega
 obtain⟨ad,rfl,pN⟩:=(HL.at_ mA.out).tr.nd.nd rfl Gg;have Gs:=pN.range;rw[lp]at Gs;have qu:ad.block<w1.heap.size:=by have:=pN.lt;rw[lp]at this;exact this
 obtain⟨Au,nu,cu,huv⟩:=HL.qt.uv _ (YJ Gg);have pP:=X6 Gs;have HO:=X6 (me.one (l[0]'Gg).s huv);obtain⟨s,Zl⟩:∃s,s=(l[0]'Gg).s:=⟨_,rfl⟩;rw[<-Zl]at pP HO;clear Zl huv pN Gs;simp only[aB5]at pP;go_upto_region 2 with(first | refine wpList_load_mid rfl 63 (.tmp 16) rfl ad.block ((ad.add 0).off+1) rfl (lj s) _ pP.out underlying63 rfl (by kernel_rfl) ?_ | refine lJ rfl 63 _ _ rfl _ rfl (lj s).toArray rfl rfl 63 _ (by kernel_rfl) rfl HO.out ?_);obtain⟨gs,rL⟩:∃g,g=w1.heap.size:=⟨_,rfl⟩;have EV:Below w1.heap.size w1 (w1.alloc (.cells (lj s).toArray 63)):=bA;have S5:Hid (lq (w1.alloc (.cells (lj s).toArray 63)) gs 63 (lj s).toArray):=X6 (lq.at_ _ _ _ rL);have oP:Hid (∀W,Below (w1.heap.size+1) (w1.alloc (.cells (lj s).toArray 63)) W->(lq W w.heap.size 25 #[.slice (some ad) l.length c,.slice A2 adv.length c2,view]/\lq W (w.heap.size+1) 40 #[ux,uy,uz]/\lq W (w.heap.size+1+1) 43 #[lx,lx,lx,lx,lH]/\lq W gs 63 (lj s).toArray)/\Below w.heap.size w W):=X6 (λW hb=>by have h1:=Ie.out;have h2:=(EV.trans (hb.mono (Z8 _)));exact⟨⟨oW.1.below h2 oW.1.lt,oW.2.1.below h2 oW.2.1.lt,oW.2.2.below h2 oW.2.2.lt,S5.below hb (by omega)⟩,mA.trans (h2.mono mA.size)⟩);have Fq:Hid (Below (w1.heap.size+1) (w1.alloc (.cells (lj s).toArray 63)) (w1.alloc (.cells (lj s).toArray 63))/\w1.heap.size+1<=(w1.alloc (.cells (lj s).toArray 63)).heap.size):=X6 ⟨ZN _ _,by simp⟩;rw[<-rL];clear EV qu t0 t1 t2 tl oW mA pP HO S5 Gg Vq;obtain⟨B3,hB3⟩:∃B,B=w1.heap.size+1:=⟨_,rfl⟩;rw[<-hB3]at oP Fq;clear hB3 rL;generalize World.alloc w1 _=w3 at oP Fq⊢;have vV:=X6 (oP.out w3 Fq.1);have y16:=vV.1.2.2.2.get 16 (v:= .int .u8 s.m0.k) rfl;have y17:=vV.1.2.2.2.get 17 (v:= .int .i64 s.m0.n) rfl;have yl:=vV.1.2.2.2.lt;obtain⟨t0,t1,t2⟩:=vV.1.1.c3;have tl:=vV.1.1.lt;go_upto_region 3 with(go_at_call 84;refine(rj _ _ _ _).mono ?_;rintro e w4 ⟨⟨rx,rb,rfl⟩,sY⟩;have rH:=X6 (Fq.1.trans (sY.mono Fq.2));have HS4:=X6 (YL Fq.2 sY.size);clear sY);clear y16 y17 yl t0 t1 t2 tl vV;have OZ:=X6 (oP.out w4 rH.out);go_upto_region 4 with(first | (refine wpList_load_mid rfl 63 _ rfl gs 0 rfl (lj s) _ (qF OZ.1.2.2.2) underlying63 rfl (by kernel_rfl) ?_) | (go_at_call 82;refine(rO s _).mono ?_;rintro e w5 ⟨⟨fx,fy,rfl⟩,wE⟩;have sR:=X6 (rH.trans (wE.mono HS4.out));have HS5:=X6 (YL HS4.out wE.size);clear wE));clear OZ;have Cw:=X6 (oP.out w5 sR.out);obtain⟨z0,z1,z2⟩:=Cw.1.2.1.c3;have zl:=Cw.1.2.1.lt;go_wp2_with (go_at_call 81;refine(qh _ _ _ _ none 0 0 _).mono ?_;rintro e w6 ⟨⟨a1,a2,a3,a4,be,rfl⟩,VI⟩;have Bh:=X6 (oP.out w6 (sR.trans (VI.mono HS5.out)));clear VI;obtain⟨f0,f1,f2,f3,f4⟩:=Bh.1.2.2.1.c5;have fl:=Bh.1.2.2.1.lt;have ff:=Bh.1.2.2.1.frozen);refine ZQ (K6 rfl _ _ (w.heap.size+1+1) _ _ _ _ _ _ rfl rfl (((((Bh.1.2.2.1.lA 0 _).lA 1 _).lA 2 _).lA 3 _).lA 4 _)) rfl ⟨⟨_,_,_,_,_,rfl⟩,?_⟩;exact((((Bh.2.setCell (p:=(w.heap.size+1+1,0)) (by simp;omega) _).setCell (p:=(w.heap.size+1+1,1)) (by simp;omega) _).setCell (p:=(w.heap.size+1+1,2)) (by simp;omega) _).setCell (p:=(w.heap.size+1+1,3)) (by simp;omega) _).setCell (p:=(w.heap.size+1+1,4)) (by simp;omega) _
theorem Km(l:List Nd)(adv:List Int)(A A2:Option Addr)(c c2:Nat)(view:Int)(w:World)(hL:QI l adv A A2 w)(hD:DwH l view)(gc:Nat)(L1:yx w gc l.length): Calls prog 20 #[.agg #[.slice A l.length c,.slice A2 adv.length c2,view],.slice gc l.length l.length] w λe w'=> (∃(gu:Nat) (x:Int),e= .returned (.tuple #[.slice gu l.length l.length,x])/\Be w' gu l.length/\w.heap.size<=gu)/\Below w.heap.size w w':=by
 have HN:=X6 hL.n;have HL:=X6 (λW (hb:Below w.heap.size w W)=>hL.at_ hb);have HD:=X6 hD;have HKI:=X6 (λW (hb:Below w.heap.size w W)=>Ey l A A2 c adv.length c2 view W (by have:=hL.n;omega) (hL.at_ hb).tr.nd);obtain⟨w1,mW⟩:∃W,W=w.alloc (.cells #[.slice A l.length c,.slice A2 adv.length c2,view] 25):=⟨_,rfl⟩;have oW:Hid (lq w1 w.heap.size 25 #[.slice A l.length c,.slice A2 adv.length c2,view]):=X6 (by rw[mW];exact lq.new _ _ _);have mA:Hid (Below w.heap.size w w1):=X6 (by rw[mW];exact bA);have pD:Hid (∀W,Below w1.heap.size w1 W->lq W w.heap.size 25 #[.slice A l.length c,.slice A2 adv.length c2,view]/\Below w.heap.size w W):=X6 (λW hb=>⟨oW.below hb oW.lt,mA.trans (hb.mono mA.size)⟩);have Ii:=X6 (λW (hb:Below w.heap.size w W)=>L1.below hb L1.lt);clear hL hD L1;go_enter func20,ntmps20;go_upto_region 1 with(fail)
 rw[<-mW];clear mW;obtain⟨t0,t1,t2⟩:=oW.c3;have tl:=oW.lt;have xG:l.length<=1000000:=by have:=HN.out;omega
 have JC:=AT l.length xG w1;go_upto_region 2 with(fail)
 have SH:Hid (lq (w1.alloc (.cells (ly (List.replicate l.length yS)).toArray 38)) w1.heap.size 38 (ly (List.replicate l.length yS)).toArray/\Below w1.heap.size w1 (w1.alloc (.cells (ly (List.replicate l.length yS)).toArray 38))):=X6 ⟨lq.new _ _ _,bA⟩;obtain⟨go,XS⟩:∃g,g=w1.heap.size:=⟨_,rfl⟩;have Lv:Hid (w1.heap.size<=go):=X6 (by omega);have A0:Hid (lq (w1.alloc (.cells (ly (List.replicate l.length yS)).toArray 38)) go 38 (ly (List.replicate l.length yS)).toArray/\Below w1.heap.size w1 (w1.alloc (.cells (ly (List.replicate l.length yS)).toArray 38))):=X6 (by rw[XS];exact SH.out);rw[<-XS];clear JC t0 t1 t2 tl SH XS oW;generalize World.alloc w1 _=w2 at A0⊢;obtain⟨cs,oR,hcr,UQ⟩:=(Ii.out w2 (pD.out w2 A0.2).2).reads;obtain⟨v15,hcp⟩:=yt (P:=prog) w2 go 28 28 3 38 yk.ht (by kernel_rfl) l.length l.length cs 38 A0.1 (by rw[oR];exact hcr);rw[oR]at hcp;have Tl:Hid (yx (w2.setRow go (ly (qe cs l.length)).toArray) go l.length/\Below w1.heap.size w1 (w2.setRow go (ly (qe cs l.length)).toArray)):=X6 ⟨⟨qe cs l.length,zV _ _,setRow_heap w2 go _ _ _ _ A0.1,λx hx=>by
  rcases Ua hx with h | h
  ·exact UQ x h
  ·rw[h];exact⟨by decide,by decide,by decide,by decide⟩⟩,below_setRow A0.2 Lv.out _⟩
 go_upto_region 3 with(fail);clear hcp oR hcr UQ A0;generalize World.setRow w2 _ _=w3 at Tl⊢;have HCD:=X6 (Tl.1.below (ZN _ _).drew Tl.1.lt);refine wp_region_held_drew (S:=λV=>Below w1.heap.size w1 V) (by kernel_rfl) (Tl.2.trans ((ZN _ _).drew.mono Tl.2.size)) (λhS=>?_);refine nk [0,1,3] ?_;iterate 3
  refine tk hS (y:=by intro W' lr;obtain⟨t0,t1,t2⟩:=(pD.out W' lr).1.c3;have tl:=(pD.out W' lr).1.lt;go_simp;rfl) (h:=?_)
 refine np ?_;refine mV 2 (λK hK=>?_);go_simp;refine(HKI.out _ (pD.out _ hS).2).mono ?_;rintro e w4 ⟨⟨gk,rfl,Hj⟩,sY⟩;have HKA:=X6 Hj;have HC4:=X6 (HCD.below sY HCD.lt);clear Hj;refine ky hK (hS.trans (sY.mono hS.size)) λhS=>?_;clear hK;refine mV 4 (λK hK=>?_);go_simp;refine(KF l adv A A2 c c2 view _ (HL.out _ (pD.out _ hS).2) HD.out gk _ go HKA.out HC4.out).mono ?_;rintro e w9 ⟨⟨gu,gb,rfl,hu9,hb9',rW,zG⟩,mH⟩;have HUU:=X6 hu9;have JR:=X6 hb9';have Mg:=X6 (YL hS.size rW);clear hu9 hb9' rW zG;refine ky hK (hS.trans (mH.mono hS.size)) λhS=>?_;clear hK;refine nk [5,6,7,8,9] ?_;iterate 5
  refine tk hS (y:=by intro W' lr;obtain⟨t0,t1,t2⟩:=(pD.out W' lr).1.c3;have tl:=(pD.out W' lr).1.lt;go_simp;rfl) (h:=?_)
 refine np ?_;refine nR ?_;have XA:=X6 hS;clear hS;go_wp2_with (go_at_call 37;refine(yD w9 gb l.length (by have:=HN.out;omega) JR.out).mono ?_;rintro e w8 ⟨⟨x,rfl⟩,Ko⟩;have HU8:=X6 (HUU.below Ko HUU.lt);have XJ:=X6 (XA.trans (Ko.mono XA.size));clear Ko);go_ret2;exact⟨⟨gu,_,rfl,HU8.out,by have h1:=Mg.out;have h2:=mA.size;omega⟩,(pD.out _ XJ.out).2⟩
end
section
attribute [local go_sem] lp yY yB
def tW(n:Nat):Code->Option Code
 | .block m c=>if m == n then some (.block m c)else tW n c
 | .seq a b=>match tW n a with
  | some c=>some c
  | none=>tW n b
 | .cond _ a b=>match tW n a with
  | some c=>some c
  | none=>tW n b
 | .loop c=>tW n c
 | .scope c=>tW n c
 | _=>none
noncomputable def swC:Code:=((f194.body.bind (tW 2)).getD .skip)
def swQ(Qn:Act->World->Prop):Exit->Act->World->Prop
 | .normal,a,w=>Qn a w
 | _,_,_=>False
theorem Vx{P:Program}{c:Code}{a:Act}{w:World}{Q:Exit->Act->World->Prop}(h:Code.wp P c (swQ λa V=>Q .normal a V) a w):Code.wp P c Q a w:=Code.wp_mono (λe a w h=>by cases e<;>first | exact h | cases h) h
structure CoQ(C:Qx)(W0:World)(fb:Nat)(W:World):Prop where
 ex:∃a s1 s2 Af cf fl,nT C a s1 s2 Af cf fl W/\fl.length+1<=fb
 k:uG C W0 W
def SwT(C:Qx)(W w9:World)(f q gs:Nat)(x rt above below:Int)(qw:List Fl):Prop:=
 ∀{a0 a1 a2 a3 a4 a5 a6 a7 a8 a9 aa ab ac ad ae af ag ah ai aj ak al am an ao ap aq ar au av aw ax ay az aA aB aC aD aE aF aG aH aI aJ aK aL aM aN aO aP aQ aR aS aT aU aV aW aX aY aZ b0 b1 b2 b3 b4 b5 b6 b7 b8 b9 ba bb bc bd be bf bg bh bi bj bk bl bm bn bo bp bq br bs bt bu bv bw bx bz bA bB bC bD bE bF bG bH bI bJ bK bL bM bN bO bP bQ bR bS bT bU bV bW bX bY bZ c0 c1 c2 c3 c4 c5 c6 c7 c8 c9 ca cb cc cd ce cg ch ci cj ck cl cm cn co cp cq cr cs ct cu cv cw cx cy cz cA cB cC cD cE cF cG cH cI cJ cK cL cM cN cO cP cQ cR cS cT cU cV cW cX cY cZ d0 d1 d2 d3 d4 d5 d6 d7 d8 d9 da db dc dd de df dg dh di dj dk dl dm dn dp dq dr ds dt du dv dw dx dy dz dA dB dC dD dE dF dG dH dI dJ dK dL dM dN dO dP dQ dR dS dT dU dV dW dX dY dZ e0 e1 e2 e3 e4 e5 e6 e7 e8 e9 ea eb ec ed ee ef eg eh ei ej ek el em en eo ep eq er es et eu ev ew ex ey ez eA eB eC eD eE eF eG eH eI eJ eK eL eM eN eO eP eQ eR eS eT eU eV eW eX eY eZ f0 f1 f2 f3 f4 f5 f6 f7 f8 f9 fa fb fc fd fe ff fg fh fi fj fk fm fn fo fp fq fr fs ft fu fv fw fx fy fz fA fB fC fD fE fF fG fH fI fJ fK fL fM fN fO fP fQ fR fS fT fU fV fW fX fY fZ g0 g1 g2 g3 g4 g5 g6 g7 g8 g9 ga gb gc gd ge gf gg gh:Value} {Qn:Act->World->Prop} (_:Hid (∀{gi gj gk gl gm gn go gp gq gr gt gu gv gw gx gy gz gA gB gC gD gE gF gG gH gI gJ gK gL gM gN gO gP gQ gR gS gT gU gV gW gX gY gZ h0 h1 h2 h3 h4 h5 h6 h7 h8 h9 ha hb hc hd he hf hg hh hi hj hk hl hm hn ho hp hq hr hs ht hu hv hw hx hy hz hA hB hC hD hE hF hG hH hI hJ hK hL hM hN hO hP hQ hR hS hT hU hV hW hX hY hZ i0 i1 i2 i3 i4 i5 i6 i7 i8 i9 ia ib ic id ie ig ih ii ij ik il im io ip iq ir is it iu iv iw ix iy iz iA iB iC iD iE iF iG iH iI iJ iK iL iM iN iO iP iQ iR iS iT iU iV iW iX iY iZ j0 j1 j2 j3 j4 j5 j6 j7 j8 j9 ja jb jc jd je jf jg jh ji jj jk jl jm jn jo jp jq jr js jt ju jv jw jx jy jz jA jB jC jD jE jF jG jH jI jJ jK jL jM jN jO jP jQ jR jS jT jU jV jW jX jY jZ k0 k1 k2 k3 k4 k5 k6 k7 k8 k9 ka kb kc kd ke kf kg kh ki kj kk kl km kn ko kp kq kr ks kt ku kv kw kx ky kz kA kB kC kD kE kF kG kH kI kJ kK kL kM kN kO kP kQ kR kS kT kU kV kW kX kY kZ l0 l1 l2 l3 l4 l5 l6 l7 l8 l9 la lb lc ld le:Value} (V:World),(∃(a s1 s2:Int) (Af:Option Addr) (cf:Nat) (I5:List Fl),pj C W [] a s1 s2 Af cf I5 V/\I5.length<=qw.length+ny C.l f q)->Qn ⟨#[.pointer C.bw,a0,.int .i64 x,a1,a2,a3,.int .i64 rt,a4,a5,a6,a7,a8,.int .i64 (q:Int),.pointer gs,.int .i64 above,.int .i64 below,gi,gj,gk,gl,ad,ae,af,ag,ah,ai,aj,ak,al,am,an,ao,ap,aq,ar,au,av,aw,ax,ay,az,aA,aB,aC,aD,aE,aF,aG,aH,aI,aJ,aK,aL,aM,aN,aO,aP,aQ,aR,aS,aT,aU,aV,aW,aX,aY,aZ,b0,b1,b2,b3,b4,b5,b6,b7,b8,b9,ba,bb,bc,bd,be,bf,bg,bh,bi,bj,bk,bl,bm,bn,gm,gn,go,gp,gq,gr,gt,gu,gv,gw,gx,gy,gz,gA,gB,gC,gD,gE,gF,gG,gH,gI,gJ,gK,gL,gM,gN,gO,gP,gQ,gR,gS,gT,gU,gV,gW,gX,gY,gZ,h0,h1,h2,h3,h4,h5,h6,h7,h8,h9,ha,hb,hc,hd,he,hf,hg,hh,hi,hj,hk,hl,hm,hn,ho,hp,hq,hr,hs,ht,hu,hv,hw,hx,hy,hz,hA,hB,hC,hD,hE,hF,hG,hH,hI,hJ,hK,hL,hM,hN,hO,hP,hQ,hR,hS,hT,hU,hV,hW,hX,hY,hZ,i0,i1,i2,i3,i4,i5,i6,i7,i8,i9,ia,ib,ic,id,ie,ig,ih,ii,ij,ik,il,im,io,ip,iq,ir,is,it,iu,iv,iw,ix,iy,iz,iA,iB,iC,iD,iE,iF,iG,iH,iI,iJ,iK,iL,iM,iN,iO,iP,iQ,iR,iS,iT,iU,iV,iW,iX,iY,iZ,j0,j1,j2,j3,j4,j5,j6,j7,j8,j9,ja,jb,jc,jd,je,jf,jg,jh,ji,jj,jk,jl,jm,jn,jo,jp,jq,jr,js,jt,ju,jv,jw,jx,jy,jz,jA,jB,jC,jD,jE,jF,jG,jH,jI,jJ,jK,jL,jM,jN,jO,jP,jQ,jR,jS,jT,jU,jV,jW,jX,jY,jZ,k0,k1,k2,k3,k4,k5,k6,k7,k8,k9,ka,kb,kc,kd,ke,kf,kg,kh,ki,kj,kk,kl,km,kn,ko,kp,kq,kr,ks,kt,ku,kv,kw,kx,ky,kz,kA,kB,kC,kD,kE,kF,kG,kH,kI,kJ,kK,kL,kM,kN,kO,kP,kQ,kR,kS,kT,kU,kV,kW,kX,kY,kZ,l0,l1,l2,l3,l4,l5,l6,l7,l8,l9,la,lb,lc,ld,le],[]⟩ V)),Code.wp prog swC (swQ Qn) ⟨#[.pointer C.bw,a0,.int .i64 x,a1,a2,a3,.int .i64 rt,a4,a5,a6,a7,a8,.int .i64 (q:Int),.pointer gs,.int .i64 above,.int .i64 below,a9,aa,ab,ac,ad,ae,af,ag,ah,ai,aj,ak,al,am,an,ao,ap,aq,ar,au,av,aw,ax,ay,az,aA,aB,aC,aD,aE,aF,aG,aH,aI,aJ,aK,aL,aM,aN,aO,aP,aQ,aR,aS,aT,aU,aV,aW,aX,aY,aZ,b0,b1,b2,b3,b4,b5,b6,b7,b8,b9,ba,bb,bc,bd,be,bf,bg,bh,bi,bj,bk,bl,bm,bn,bo,bp,bq,br,bs,bt,bu,bv,bw,bx,bz,bA,bB,bC,bD,bE,bF,bG,bH,bI,bJ,bK,bL,bM,bN,bO,bP,bQ,bR,bS,bT,bU,bV,bW,bX,bY,bZ,c0,c1,c2,c3,c4,c5,c6,c7,c8,c9,ca,cb,cc,cd,ce,cg,ch,ci,cj,ck,cl,cm,cn,co,cp,cq,cr,cs,ct,cu,cv,cw,cx,cy,cz,cA,cB,cC,cD,cE,cF,cG,cH,cI,cJ,cK,cL,cM,cN,cO,cP,cQ,cR,cS,cT,cU,cV,cW,cX,cY,cZ,d0,d1,d2,d3,d4,d5,d6,d7,d8,d9,da,db,dc,dd,de,df,dg,dh,di,dj,dk,dl,dm,dn,dp,dq,dr,ds,dt,du,dv,dw,dx,dy,dz,dA,dB,dC,dD,dE,dF,dG,dH,dI,dJ,dK,dL,dM,dN,dO,dP,dQ,dR,dS,dT,dU,dV,dW,dX,dY,dZ,e0,e1,e2,e3,e4,e5,e6,e7,e8,e9,ea,eb,ec,ed,ee,ef,eg,eh,ei,ej,ek,el,em,en,eo,ep,eq,er,es,et,eu,ev,ew,ex,ey,ez,eA,eB,eC,eD,eE,eF,eG,eH,eI,eJ,eK,eL,eM,eN,eO,eP,eQ,eR,eS,eT,eU,eV,eW,eX,eY,eZ,f0,f1,f2,f3,f4,f5,f6,f7,f8,f9,fa,fb,fc,fd,fe,ff,fg,fh,fi,fj,fk,fm,fn,fo,fp,fq,fr,fs,ft,fu,fv,fw,fx,fy,fz,fA,fB,fC,fD,fE,fF,fG,fH,fI,fJ,fK,fL,fM,fN,fO,fP,fQ,fR,fS,fT,fU,fV,fW,fX,fY,fZ,g0,g1,g2,g3,g4,g5,g6,g7,g8,g9,ga,gb,gc,gd,ge,gf,gg,gh],[]⟩ w9
end
section
def ContS:Prop:=∀(C:Qx) (hC:nJ C) (f b:Nat) (x a s1 s2:Int) (Af:Option Addr) (cf:Nat) (fl:List Fl) (W:World),b<C.l.length->C.l.length<=b+f->nT C a s1 s2 Af cf fl W->fl.length+ny C.l f b<=65536->
 Calls prog 194 #[.pointer C.bw,.int .i64 (b:Int),.int .i64 x] W λe w'=>(∃v,e= .returned v)/\CoQ C W (fl.length+ny C.l f b) w'
end
end Go.Proofs.YtjhingednpjogaaGreat
