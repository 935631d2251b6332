/- Lemmas for ValidRoom; laid together by a program. -/
import Derived.Test.YtjhingednpjogaaGreatQo
set_option linter.all false
namespace Go.Proofs.YtjhingednpjogaaGreat
open Go.Proofs.Tryz
open Go.RowKit
attribute [local go_sem] lp yY yB
structure pj(C:Qx)(W0:World)(L:List (Nat×TypeId×Array Value))(a s1 s2:Int)(Af:Option Addr)(cf:Nat)(fl:List Fl)(W:World):Prop where
 w:nT C a s1 s2 Af cf fl W
 l:∀p∈L,lq W p.1 p.2.1 p.2.2/\C.B<=p.1/\p.2.1≠181
 k:uG C W0 W
section
variable{C:Qx}{W0:World}{L:List (Nat×TypeId×Array Value)}{a s1 s2 a' s1' s2':Int}{Af Af':Option Addr}{cf cf':Nat}{fl fl':List Fl}{W W':World}
theorem pj.via(h:pj C W0 L a s1 s2 Af cf fl W)(hw:nT C a' s1' s2' Af' cf' fl' W')(hk:uG C W W'):pj C W0 L a' s1' s2' Af' cf' fl' W':=
 ⟨hw,λp hp=>⟨hk.qB (h.l p hp).1 (h.l p hp).2.1 (h.l p hp).2.2,(h.l p hp).2⟩,h.k.trans hk⟩
theorem pj.lR(h:pj C W0 L a s1 s2 Af cf fl W)(hC:nJ C)(hb:Below W.heap.size W W'):pj C W0 L a s1 s2 Af cf fl W':=h.via (h.w.below hC hb) (uG.nD hb)
theorem pj.drew(h:pj C W0 L a s1 s2 Af cf fl W)(hC:nJ C):pj C W0 L a s1 s2 Af cf fl W.drew:=h.lR hC (ZN _ _).drew
theorem pj.vT(h:pj C W0 L a s1 s2 Af cf fl W)(hC:nJ C)(v v':Int):pj C W0 L a v v' Af cf fl ((W.setCell (C.bw,8) v).setCell (C.bw,9) v'):=
 h.via (h.w.vT hC v v') ((uG.refl.lA hC (g:=C.bw) (by simp[Qx.arr]) 8 _).lA hC (g:=C.bw) (by simp[Qx.arr]) 9 _)
theorem pj.setAt(h:pj C W0 L a s1 s2 Af cf fl W)(hC:nJ C)(v:Int):pj C W0 L v s1 s2 Af cf fl (W.setCell (C.bw,7) v):=h.via (h.w.setAt hC v) (uG.refl.lA hC (g:=C.bw) (by simp[Qx.arr]) 7 _)
theorem pj.Oh(h:pj C W0 L a s1 s2 Af cf fl W)(hC:nJ C)(j:Nat)(v:Bool):pj C W0 L a s1 s2 Af cf fl (W.setCell (C.go,j) (.bool v)):=h.via (h.w.Oh hC j v) (uG.refl.lA hC (g:=C.go) (by simp[Qx.arr]) j _)
theorem pj.LQ(h:pj C W0 L a s1 s2 Af cf fl W)(hC:nJ C)(j:Nat)(v:Int):pj C W0 L a s1 s2 Af cf fl (W.setCell (C.gx,j) v):=h.via (h.w.LQ hC j v) (uG.refl.lA hC (g:=C.gx) (by simp[Qx.arr]) j _)
theorem pj.Ew(h:pj C W0 L a s1 s2 Af cf fl W)(hC:nJ C)(j:Nat)(v:Int):pj C W0 L a s1 s2 Af cf fl (W.setCell (C.gy,j) v):=h.via (h.w.Ew hC j v) (uG.refl.lA hC (g:=C.gy) (by simp[Qx.arr]) j _)
theorem pj.FI(h:pj C W0 L a s1 s2 Af cf fl W)(hC:nJ C)(j:Nat)(v:Int):pj C W0 L a s1 s2 Af cf fl (W.setCell (C.gh,j) v):=h.via (h.w.FI hC j v) (uG.refl.lA hC (g:=C.gh) (by simp[Qx.arr]) j _)
theorem pj.push(h:pj C W0 L a s1 s2 Af cf fl W){g:Nat}{t:TypeId}{cs:Array Value}(hb:lq W g t cs)(hg:C.B<=g)(ht:t≠181):pj C W0 ((g,t,cs)::L) a s1 s2 Af cf fl W:=
 ⟨h.w,λp hp=>by
  rcases Y7.1 hp with rfl | hp
  ·exact⟨hb,hg,ht⟩
  ·exact h.l p hp,h.k⟩
theorem pj.pop{p:Nat×TypeId×Array Value}(h:pj C W0 (p::L) a s1 s2 Af cf fl W):pj C W0 L a s1 s2 Af cf fl W:=⟨h.w,λq hq=>h.l q (aCM _ hq),h.k⟩
theorem pj.hd{g:Nat}{t:TypeId}{cs:Array Value}(h:pj C W0 ((g,t,cs)::L) a s1 s2 Af cf fl W):lq W g t cs:=(h.l _ (aB1 ..)).1
theorem pj.E9{p:Nat×TypeId×Array Value}{g:Nat}{t:TypeId}{cs:Array Value}(h:pj C W0 (p::(g,t,cs)::L) a s1 s2 Af cf fl W):lq W g t cs:=(h.l _ (aCM _ (aB1 ..))).1
theorem nT.tG(h:nT C a s1 s2 Af cf fl W)(hC:nJ C){ga:Nat}{cs:Array Value}(S0:C.B<=ga)(mI:∀g,(Value.slice Af fl.length cf).ownBlock=some g->g<ga)(hb:lq W ga 181 cs)(j:Nat)(u:Value):nT C a s1 s2 Af cf fl (W.setCell (ga,j) u):=by
 have hx:∀g∈C.arr,g≠ga:=λg hg=>by have:=(hC.lw g hg).2.1;omega
 have hk:=hC.kb;have hl:=(hC.lw C.bw (by simp[Qx.arr]));exact⟨h.qB.lQ (p:=(ga,j)) (hx _ (by simp[Qx.arr])) _,ZP h.fo (a:=⟨ga,j,none⟩) (λe=>by have:=mI ga e;omega) _,h.op.lQ (p:=(ga,j)) (hx _ (by simp[Qx.arr])) _,h.x.lQ (p:=(ga,j)) (hx _ (by simp[Qx.arr])) _,h.y.lQ (p:=(ga,j)) (hx _ (by simp[Qx.arr])) _,h.h.lQ (p:=(ga,j)) (hx _ (by simp[Qx.arr])) _,h.r.kept (λ_ hc=>hc.lQ (p:=(ga,j)) (hx _ (by simp[Qx.arr])) _) (Kt.setCell (p:=(ga,j)) _ (.inr ⟨_,_,by decide,hb⟩)) (Kt.setCell (p:=(ga,j)) _ (.inr ⟨_,_,by decide,hb⟩)),λp Nw L5=>(Y8 (ZS W ⟨ga,j,none⟩ _ p.block (by intro e;simp only at e;omega))).trans (h.kd p Nw L5),h.b.setCell (p:=(ga,j)) (by simp only;omega) _,by have:=h.sz;simpa[World.setCell]using this⟩
theorem pj.tG(h:pj C W0 L a s1 s2 Af cf fl W)(hC:nJ C){ga:Nat}{cs:Array Value}(S0:C.B<=ga)(mI:∀g,(Value.slice Af fl.length cf).ownBlock=some g->g<ga)(hb:lq W ga 181 cs)(j:Nat)(u:Value):pj C W0 L a s1 s2 Af cf fl (W.setCell (ga,j) u):=
 h.via (h.w.tG hC S0 mI hb j u) (λt ht=>Kt.setCell (p:=(ga,j)) u (.inr ⟨_,_,ht,hb⟩))
structure Tn(C:Qx)(Af:Option Addr)(cf:Nat)(fl:List Fl)(ga:Nat)(cs:Array Value)(W:World):Prop where
 b:lq W ga 181 cs
 ge:C.B<=ga
 ne:∀g,(Value.slice Af fl.length cf).ownBlock=some g->g<ga
theorem Tn.lR{ga:Nat}{cs:Array Value}(h:Tn C Af cf fl ga cs W)(hb:Below W.heap.size W W'):Tn C Af cf fl ga cs W':=⟨h.b.below hb h.b.lt,h.ge,h.ne⟩
theorem Tn.new(h:nT C a s1 s2 Af cf fl W)(cs:Array Value):Tn C Af cf fl W.heap.size cs (W.alloc (.cells cs 181)):=⟨lq.new _ _ _,h.sz,λg e=>(h.fo.lt g e).2⟩
theorem pj.flt(h:pj C W0 L a s1 s2 Af cf fl W)(hC:nJ C){ga:Nat}{v0 v1 v2 v3 v4:Value}(hf:Tn C Af cf fl ga #[v0,v1,v2,v3,v4] W)(f:Fl): pj C W0 L a s1 s2 Af cf fl (((((W.setCell (ga,0) (.int .u8 f.side)).setCell (ga,1) f.x).setCell (ga,2) f.y).setCell (ga,3) f.w).setCell (ga,4) f.h)/\ Tn C Af cf fl ga (oL f).toArray (((((W.setCell (ga,0) (.int .u8 f.side)).setCell (ga,1) f.x).setCell (ga,2) f.y).setCell (ga,3) f.w).setCell (ga,4) f.h):=by have b0:=hf.b.lA 0 (.int .u8 f.side);have b1:=b0.lA 1 f.x;have b2:=b1.lA 2 f.y;have b3:=b2.lA 3 f.w;have b4:=b3.lA 4 f.h;exact⟨((((h.tG hC hf.ge hf.ne hf.b 0 _).tG hC hf.ge hf.ne b0 1 _).tG hC hf.ge hf.ne b1 2 _).tG hC hf.ge hf.ne b2 3 _).tG hC hf.ge hf.ne b3 4 _,⟨b4,hf.ge,hf.ne⟩⟩
theorem pj.app(h:pj C W0 L a s1 s2 Af cf fl W)(hC:nJ C){f:Fl}{A':Option Addr}{c':Nat}(hg:W.grownBy W' (Value.slice Af fl.length cf).ownBlock)(ho:W'.ownsRow C.B 181 5 (.slice A' (fl.length+1) c') (fl.length+1) (nj fl++oL f)):pj C W0 L a s1 s2 A' c' (fl++[f]) (W'.setCell (C.bw,10) (.slice A' (fl.length+1) c')):=
 h.via (h.w.app hC hg ho) ((show uG C W W' from λt ht=>Kt.grown hg λg e=> .inr (by obtain⟨cs,hc⟩:=rS h.w.fo e;exact⟨cs,_,ht,hc⟩)).lA hC (g:=C.bw) (by simp[Qx.arr]) 10 _)
theorem FQ.at_(h:FQ C W){b:Nat}(hb:b<C.l.length):∃(A:Option Addr) (c:Nat) (rs:List C5),W.cell? (C.gr,b)=some (.slice A rs.length c)/\wY (C.nw b) C.B W (.slice A rs.length c) rs/\rs.length<=3600060000:=by obtain⟨vs,h1,_,h3⟩:=h;obtain⟨A,c,rs,h4,h5⟩:=h3 b hb;exact⟨A,c,rs,h1.get b h4,h5⟩
theorem FQ.lt(h:FQ C W):C.gr<W.heap.size:=by obtain⟨vs,h1,_⟩:=h;exact h1.lt
theorem FQ.frozen(h:FQ C W)(k:Nat):W.frozen? (C.gr,k)=false:=by obtain⟨vs,h1,_⟩:=h;exact h1.frozen k
theorem wY.low{n B B':Nat}{v:Value}{rs:List C5}(h:wY n B W v rs)(hB:B'<=B):wY n B' W v rs:=⟨mL h.o hB,λr hr=>⟨mL (h.r r hr).1 hB,(h.r r hr).2⟩⟩
end
theorem WZ:El prog 115 181 (.agg #[.int .u8 0,lx,lx,lx,lx]) 5 40:=⟨underlying115,by kernel_rfl,rfl,by decide⟩
theorem zR(fl:List Fl)(Af:Option Addr)(cf:Nat)(W:World)(sd wd ht lf rt y:Int)(hn:fl.length<=65536)(hr:Reads W W.heap.size 5 Af fl.length (nj fl)): Calls prog 226 #[.slice Af fl.length cf,.int .u8 sd,.int .i64 wd,.int .i64 ht,.int .i64 lf,.int .i64 rt,.int .i64 y] W λe w'=>(∃f0 f1 f2 f3 f4,e= .returned (.agg #[.int .u8 f0,.int .i64 f1,.int .i64 f2,.int .i64 f3,.int .i64 f4]))/\Below W.heap.size W w':=
 (LN fl Af cf W sd wd ht lf rt y hn hr).mono λe w' h=>⟨by obtain⟨f,hf⟩:=h.1;exact⟨f.side,f.x,f.y,f.w,f.h,hf⟩,h.2⟩
theorem WO(l:List Nd)(f:Nat)(ks:List Int)(j:Nat)(h:j<ks.length):((ks.take (j+1)).map λk=>ny l f k.toNat).sum=((ks.take j).map λk=>ny l f k.toNat).sum+ny l f ks[j].toNat:=by rw[aB8,YH h,Option.toList_some,ZJ,Xn];simp only[Y6,UU,ZF,List.sum_nil,Nat.add_zero]
theorem WS(l:List Nd)(f:Nat)(ks:List Int)(j:Nat):((ks.take j).map λk=>ny l f k.toNat).sum<=(ks.map λk=>ny l f k.toNat).sum:=by
 conv=>rhs;rw[<-ZL j ks]
 rw[ZJ,Xn];omega
end Go.Proofs.YtjhingednpjogaaGreat
