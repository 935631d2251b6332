/- Lemmas for ValidRoom; laid together by a program. -/
import Derived.Test.YtjhingednpjogaaGreatQi
import Derived.Test.YtjhingednpjogaaGreatWfp
set_option linter.all false
set_option maxRecDepth 100000
set_option maxHeartbeats 2000000
open Go.RowKit
namespace Go.Proofs.YtjhingednpjogaaGreat
open Go.Proofs.Tryz
section
attribute [local go_sem] lp
structure Qx where
 l:List Nd
 adv:List Int
 us:List Ft
 hs:List Int
 A:Option Addr
 A2:Option Addr
 c:Nat
 c2:Nat
 view:Int
 root:Nat
 gk:Nat
 uA:Option Addr
 uc:Nat
 hA:Option Addr
 hc:Nat
 bw:Nat
 go:Nat
 gx:Nat
 gy:Nat
 gh:Nat
 gr:Nat
 klo:Nat
 kB:Nat
 B:Nat
 w0:World
 wK:World
def Qx.arr(C:Qx):List Nat:=[C.bw,C.go,C.gx,C.gy,C.gh,C.gr]
def Qx.nw(C:Qx)(b:Nat):Nat:=(lP C.l C.adv (oF C.l b)).1.length
structure nJ(C:Qx):Prop where
 n:0<C.l.length/\C.l.length<=65536
 tr:P7 C.w0 C.w0.heap.size C.A C.A2 C.l C.adv
 ud:Reads C.w0 C.w0.heap.size 3 C.uA C.us.length (nC C.us)
 hi:Reads C.w0 C.w0.heap.size 1 C.hA C.hs.length (lY C.hs)
 qt:QTr C.l
 nd:C.arr.Nodup
 lw:∀g∈C.arr,C.w0.heap.size<=g/\g<C.B/\(g<C.klo\/C.kB<=g)
 kb:C.w0.heap.size<=C.klo/\C.kB<=C.B
 kd:p9 C.wK C.klo C.kB C.gk C.l
 un:∀b,b<C.l.length->Pd C.l (oF C.l b)<=60000
 u1:∀x∈C.l,x.s.mu.length<=60000
def FQ(C:Qx)(W:World):Prop:=∃vs:Array Value,lq W C.gr 121 vs/\vs.size=C.l.length/\∀b,b<C.l.length->∃(A:Option Addr) (c:Nat) (rs:List C5),vs[b]? =some (.slice A rs.length c)/\wY (C.nw b) C.B W (.slice A rs.length c) rs/\rs.length<=3600060000
def rq(C:Qx)(a s1 s2:Int)(v:Value):Array Value:= #[.slice C.A C.l.length C.c,.slice C.A2 C.adv.length C.c2,.int .i64 C.view,.int .i64 (C.root:Int),.slice C.gk C.l.length C.l.length,.slice C.uA C.us.length C.uc,.slice C.hA C.hs.length C.hc,.int .i64 a,.int .i64 s1,.int .i64 s2,v,.slice C.go C.l.length C.l.length,.slice C.gx C.l.length C.l.length,.slice C.gy C.l.length C.l.length,.slice C.gh C.l.length C.l.length,.slice C.gr C.l.length C.l.length]
structure nT(C:Qx)(a s1 s2:Int)(Af:Option Addr)(cf:Nat)(fl:List Fl)(W:World):Prop where
 qB:lq W C.bw 216 (rq C a s1 s2 (.slice Af fl.length cf))
 fo:W.ownsRow C.B 181 5 (.slice Af fl.length cf) fl.length (nj fl)
 op:pq W C.go C.l.length
 x:pe W C.gx C.l.length
 y:pe W C.gy C.l.length
 h:pe W C.gh C.l.length
 r:FQ C W
 kd:∀p:Addr,C.klo<=p.block->p.block<C.kB->W.cell? p=C.wK.cell? p
 b:Below C.w0.heap.size C.w0 W
 sz:C.B<=W.heap.size
theorem FQ.kept{C:Qx}{W W':World}(h:FQ C W)(hb:∀cs,lq W C.gr 121 cs->lq W' C.gr 121 cs)(h1:Kt 2 C.B W W')(h2:Kt 263 C.B W W'):FQ C W':=by obtain⟨vs,h3,h4,h5⟩:=h;refine⟨vs,hb _ h3,h4,λb hl=>?_⟩;obtain⟨A,c,rs,h6,h7,h8⟩:=h5 b hl;exact⟨A,c,rs,h6,h7.kept h1 h2,h8⟩
theorem nJ.kids{C:Qx}(hC:nJ C)(b:Nat)(hb:b<C.l.length):∃(A:Option Addr) (c:Nat),∀W:World,(∀p:Addr,C.klo<=p.block->p.block<C.kB->W.cell? p=C.wK.cell? p)->C.B<=W.heap.size->W.cell? (C.gk,b)=some (.slice A (oF C.l b).length c)/\C.gk<W.heap.size/\Reads W W.heap.size 1 A (oF C.l b).length (lY (oF C.l b)):=by obtain⟨A,c,h1,_,h3,h4⟩:=hC.kd.at_ b hb;refine⟨A,c,λW hW hz=>?_⟩;have hk:=hC.kb.2;have hl:=hC.kd.lt;refine⟨(hW ⟨C.gk,b,none⟩ hC.kd.ge hl).trans h1,by omega,h3.1,λh0=>?_⟩;obtain⟨ad,e,lN,hc⟩:=h3.2 h0;exact⟨ad,e,by omega,λj x hx=>(hW _ (by rw[lp];exact h4 ad e) (by rw[lp];exact lN)).trans (hc j x hx)⟩
section
variable{C:Qx}{a s1 s2:Int}{Af:Option Addr}{cf:Nat}{fl:List Fl}{W W':World}
theorem nJ.ne(hC:nJ C):C.bw≠C.go/\C.bw≠C.gx/\C.bw≠C.gy/\C.bw≠C.gh/\C.bw≠C.gr/\C.go≠C.gx/\C.go≠C.gy/\C.go≠C.gh/\C.go≠C.gr/\C.gx≠C.gy/\C.gx≠C.gh/\C.gx≠C.gr/\C.gy≠C.gh/\C.gy≠C.gr/\C.gh≠C.gr:=by have h:=hC.nd;unfold Qx.arr at h;simp only[List.nodup_cons,Y7,ZD,DA,not_or]at h;obtain⟨⟨h1,h2,h3,h4,h5⟩,⟨h6,h7,h8,h9⟩,⟨zK,h11,h12⟩,⟨h13,h14⟩,h15,-⟩:=h;exact⟨h1,h2,h3,h4,h5,h6,h7,h8,h9,zK,h11,h12,h13,h14,h15⟩
theorem nT.below(h:nT C a s1 s2 Af cf fl W)(hC:nJ C)(hb:Below W.heap.size W W'):nT C a s1 s2 Af cf fl W':=by
 have hk:=hC.kb;have hz:=h.sz;exact⟨h.qB.below hb h.qB.lt,lG h.fo hb,h.op.below hb h.op.lt,h.x.below hb h.x.lt,h.y.below hb h.y.lt,h.h.below hb h.h.lt,
  h.r.kept (λ_ hc=>hc.below hb hc.lt) (Kt.below hb) (Kt.below hb),λp Nw L5=>(hb.cell (p:=p) (by omega)).trans (h.kd p Nw L5),h.b.trans (hb.mono h.b.size),YL hz hb.size⟩
theorem nT.keep(h:nT C a s1 s2 Af cf fl W)(hC:nJ C){g:Nat}(hg:g∈C.arr)(j:Nat)(u:Value): (W.setCell (g,j) u).ownsRow C.B 181 5 (.slice Af fl.length cf) fl.length (nj fl)/\(∀p:Addr,C.klo<=p.block->p.block<C.kB->(W.setCell (g,j) u).cell? p=C.wK.cell? p)/\Below C.w0.heap.size C.w0 (W.setCell (g,j) u)/\C.B<=(W.setCell (g,j) u).heap.size/\Kt 2 C.B W (W.setCell (g,j) u)/\Kt 263 C.B W (W.setCell (g,j) u):=by obtain⟨h1,h2,h3⟩:=hC.lw g hg;refine⟨ZT h.fo (a:=⟨g,j,none⟩) h2 u,λp Nw L5=>(Y8 (ZS W ⟨g,j,none⟩ u p.block ?_)).trans (h.kd p Nw L5),h.b.setCell (p:=(g,j)) h1 u,by have:=h.sz;simpa[World.setCell]using this,Kt.setCell (p:=(g,j)) u (.inl h2),Kt.setCell (p:=(g,j)) u (.inl h2)⟩;intro e;simp only at e;omega
theorem nT.FX(h:nT C a s1 s2 Af cf fl W)(hC:nJ C)(j:Nat)(u:Value){a' s1' s2':Int}(he:(rq C a s1 s2 (.slice Af fl.length cf)).setIfInBounds j u=rq C a' s1' s2' (.slice Af fl.length cf)):nT C a' s1' s2' Af cf fl (W.setCell (C.bw,j) u):=by obtain⟨k1,k2,k3,k4,k5,k6⟩:=h.keep hC (g:=C.bw) (by simp[Qx.arr]) j u;obtain⟨n1,n2,n3,n4,n5,-⟩:=hC.ne;exact⟨he▸h.qB.lA j u,k1,h.op.lQ (p:=(C.bw,j)) n1.symm u,h.x.lQ (p:=(C.bw,j)) n2.symm u,h.y.lQ (p:=(C.bw,j)) n3.symm u,h.h.lQ (p:=(C.bw,j)) n4.symm u,h.r.kept (λ_ hc=>hc.lQ (p:=(C.bw,j)) n5.symm u) k5 k6,k2,k3,k4⟩
theorem nT.setAt(h:nT C a s1 s2 Af cf fl W)(hC:nJ C)(v:Int):nT C v s1 s2 Af cf fl (W.setCell (C.bw,7) v):=h.FX hC 7 _ rfl
theorem nT.vT(h:nT C a s1 s2 Af cf fl W)(hC:nJ C)(v v':Int):nT C a v v' Af cf fl ((W.setCell (C.bw,8) v).setCell (C.bw,9) v'):=(h.FX hC 8 _ (a':=a) (s1':=v) (s2':=s2) rfl).FX hC 9 _ rfl
theorem nT.Oh(h:nT C a s1 s2 Af cf fl W)(hC:nJ C)(j:Nat)(v:Bool):nT C a s1 s2 Af cf fl (W.setCell (C.go,j) (.bool v)):=by obtain⟨k1,k2,k3,k4,k5,k6⟩:=h.keep hC (g:=C.go) (by simp[Qx.arr]) j (.bool v);obtain⟨n1,n2,n3,n4,n5,n6,n7,n8,n9,-⟩:=hC.ne;exact⟨h.qB.lQ (p:=(C.go,j)) n1 _,k1,h.op.lA j v,h.x.lQ (p:=(C.go,j)) n6.symm _,h.y.lQ (p:=(C.go,j)) n7.symm _,h.h.lQ (p:=(C.go,j)) n8.symm _,h.r.kept (λ_ hc=>hc.lQ (p:=(C.go,j)) n9.symm _) k5 k6,k2,k3,k4⟩
theorem nT.LQ(h:nT C a s1 s2 Af cf fl W)(hC:nJ C)(j:Nat)(v:Int):nT C a s1 s2 Af cf fl (W.setCell (C.gx,j) v):=by obtain⟨k1,k2,k3,k4,k5,k6⟩:=h.keep hC (g:=C.gx) (by simp[Qx.arr]) j (.int .i64 v);obtain⟨n1,n2,n3,n4,n5,n6,n7,n8,n9,n10,n11,n12,n13,n14,n15⟩:=hC.ne;exact⟨h.qB.lQ (p:=(C.gx,j)) n2 _,k1,h.op.lQ (p:=(C.gx,j)) n6 _,h.x.lA j v,h.y.lQ (p:=(C.gx,j)) n10.symm _,h.h.lQ (p:=(C.gx,j)) n11.symm _,h.r.kept (λ_ hc=>hc.lQ (p:=(C.gx,j)) n12.symm _) k5 k6,k2,k3,k4⟩
theorem nT.Ew(h:nT C a s1 s2 Af cf fl W)(hC:nJ C)(j:Nat)(v:Int):nT C a s1 s2 Af cf fl (W.setCell (C.gy,j) v):=by obtain⟨k1,k2,k3,k4,k5,k6⟩:=h.keep hC (g:=C.gy) (by simp[Qx.arr]) j (.int .i64 v);obtain⟨n1,n2,n3,n4,n5,n6,n7,n8,n9,n10,n11,n12,n13,n14,n15⟩:=hC.ne;exact⟨h.qB.lQ (p:=(C.gy,j)) n3 _,k1,h.op.lQ (p:=(C.gy,j)) n7 _,h.x.lQ (p:=(C.gy,j)) n10 _,h.y.lA j v,h.h.lQ (p:=(C.gy,j)) n13.symm _,h.r.kept (λ_ hc=>hc.lQ (p:=(C.gy,j)) n14.symm _) k5 k6,k2,k3,k4⟩
theorem nT.FI(h:nT C a s1 s2 Af cf fl W)(hC:nJ C)(j:Nat)(v:Int):nT C a s1 s2 Af cf fl (W.setCell (C.gh,j) v):=by obtain⟨k1,k2,k3,k4,k5,k6⟩:=h.keep hC (g:=C.gh) (by simp[Qx.arr]) j (.int .i64 v);obtain⟨n1,n2,n3,n4,n5,n6,n7,n8,n9,n10,n11,n12,n13,n14,n15⟩:=hC.ne;exact⟨h.qB.lQ (p:=(C.gh,j)) n4 _,k1,h.op.lQ (p:=(C.gh,j)) n8 _,h.x.lQ (p:=(C.gh,j)) n11 _,h.y.lQ (p:=(C.gh,j)) n13 _,h.h.lA j v,h.r.kept (λ_ hc=>hc.lQ (p:=(C.gh,j)) n15.symm _) k5 k6,k2,k3,k4⟩
theorem nT.setR(h:nT C a s1 s2 Af cf fl W)(hC:nJ C)(j:Nat)(hj:j<C.l.length){A:Option Addr}{c:Nat}{rs:List C5}(hr:wY (C.nw j) C.B W (.slice A rs.length c) rs)(hn:rs.length<=3600060000):nT C a s1 s2 Af cf fl (W.setCell (C.gr,j) (.slice A rs.length c)):=by
 obtain⟨k1,k2,k3,k4,k5,k6⟩:=h.keep hC (g:=C.gr) (by simp[Qx.arr]) j (.slice A rs.length c);obtain⟨n1,n2,n3,n4,n5,n6,n7,n8,n9,n10,n11,n12,n13,n14,n15⟩:=hC.ne;refine⟨h.qB.lQ (p:=(C.gr,j)) n5 _,k1,h.op.lQ (p:=(C.gr,j)) n9 _,h.x.lQ (p:=(C.gr,j)) n12 _,h.y.lQ (p:=(C.gr,j)) n14 _,h.h.lQ (p:=(C.gr,j)) n15 _,?_,k2,k3,k4⟩;obtain⟨vs,h1,h2,h3⟩:=h.r;refine⟨_,h1.lA j _,by simpa using h2,λb hb=>?_⟩;rw[aAM];by_cases e:j=b
 ·subst e;exact⟨A,c,rs,by simp[h2,hb],hr.kept k5 k6,hn⟩
 ·rw[YO e];obtain⟨A2,c2,rs2,h4,h5,h6⟩:=h3 b hb;exact⟨A2,c2,rs2,h4,h5.kept k5 k6,h6⟩
theorem nT.app(h:nT C a s1 s2 Af cf fl W)(hC:nJ C){f:Fl}{A':Option Addr}{c':Nat}(hg:W.grownBy W' (Value.slice Af fl.length cf).ownBlock)(ho:W'.ownsRow C.B 181 5 (.slice A' (fl.length+1) c') (fl.length+1) (nj fl++oL f)):nT C a s1 s2 A' c' (fl++[f]) (W'.setCell (C.bw,10) (.slice A' (fl.length+1) c')):=by
 obtain⟨n1,n2,n3,n4,n5,-⟩:=hC.ne;have Cx:=(hC.lw C.bw (by simp[Qx.arr])).2.1;have lQ:∀g∈C.arr,some g≠(Value.slice Af fl.length cf).ownBlock:=λg hm=>pg h.fo (hC.lw g hm).2.1;have zH:Kt 2 C.B W W':=Kt.grown hg λg e=> .inr (by obtain⟨cs,hc⟩:=rS h.fo e;exact⟨cs,181,by decide,hc⟩);have Ff:Kt 263 C.B W W':=Kt.grown hg λg e=> .inr (by obtain⟨cs,hc⟩:=rS h.fo e;exact⟨cs,181,by decide,hc⟩);have Cl:∀p:Addr,C.klo<=p.block->p.block<C.kB->W'.cell? p=C.wK.cell? p:=λp Nw L5=>(Y8 (hg.block p.block (by have:=h.sz;have:=hC.kb.2;omega) (λe=>by have:=(h.fo.lt _ e.symm).1;have:=hC.kb.2;omega))).trans (h.kd p Nw L5);have hl:(fl++[f]).length=fl.length+1:=by simp
 have Aj:nj (fl++[f])=nj fl++oL f:=by simp[nj]
 have aap:=(h.qB.grown hg (lQ _ (by simp[Qx.arr]))).lA 10 (.slice A' (fl.length+1) c');have kt:∀t,Kt t C.B W' (W'.setCell (C.bw,10) (.slice A' (fl.length+1) c')):=λt=>Kt.setCell (p:=(C.bw,10)) _ (.inl Cx);refine⟨by rw[hl];exact aap,by rw[hl,Aj];exact ZT ho (a:=⟨C.bw,10,none⟩) Cx _,(h.op.grown hg (lQ _ (by simp[Qx.arr]))).lQ (p:=(C.bw,10)) n1.symm _,(h.x.grown hg (lQ _ (by simp[Qx.arr]))).lQ (p:=(C.bw,10)) n2.symm _,(h.y.grown hg (lQ _ (by simp[Qx.arr]))).lQ (p:=(C.bw,10)) n3.symm _,(h.h.grown hg (lQ _ (by simp[Qx.arr]))).lQ (p:=(C.bw,10)) n4.symm _,h.r.kept (λ_ hc=>(hc.grown hg (lQ _ (by simp[Qx.arr]))).lQ (p:=(C.bw,10)) n5.symm _) (zH.trans (kt _)) (Ff.trans (kt _)),λp Nw L5=>(Y8 (ZS W' ⟨C.bw,10,none⟩ _ p.block ?_)).trans (Cl p Nw L5),?_,?_⟩
 ·intro e;have:=(hC.lw C.bw (by simp[Qx.arr])).2.2;simp only at e;omega
 ·exact(h.b.grown hg h.b.size (λg e=>by have:=(h.fo.lt g e).1;have:=hC.kb;have:=(hC.lw C.bw (by simp[Qx.arr]));omega)).setCell (p:=(C.bw,10)) (hC.lw C.bw (by simp[Qx.arr])).1 _
 ·have:=hg.size;have:=h.sz;simp[World.setCell];omega
theorem nT.cs(h:nT C a s1 s2 Af cf fl W):(W.cell? (C.bw,0)=some (.slice C.A C.l.length C.c)/\W.cell? (C.bw,1)=some (.slice C.A2 C.adv.length C.c2)/\W.cell? (C.bw,2)=C.view/\W.cell? (C.bw,4)=some (.slice C.gk C.l.length C.l.length)/\W.cell? (C.bw,5)=some (.slice C.uA C.us.length C.uc)/\W.cell? (C.bw,6)=some (.slice C.hA C.hs.length C.hc))/\ (W.cell? (C.bw,7)=a/\W.cell? (C.bw,8)=s1/\W.cell? (C.bw,9)=s2/\W.cell? (C.bw,10)=some (.slice Af fl.length cf))/\ (W.cell? (C.bw,11)=some (.slice C.go C.l.length C.l.length)/\W.cell? (C.bw,12)=some (.slice C.gx C.l.length C.l.length)/\W.cell? (C.bw,13)=some (.slice C.gy C.l.length C.l.length)/\W.cell? (C.bw,14)=some (.slice C.gh C.l.length C.l.length)/\W.cell? (C.bw,15)=some (.slice C.gr C.l.length C.l.length))/\C.bw<W.heap.size:=
 ⟨⟨h.qB.get 0 rfl,h.qB.get 1 rfl,h.qB.get 2 rfl,h.qB.get 4 rfl,h.qB.get 5 rfl,h.qB.get 6 rfl⟩,⟨h.qB.get 7 rfl,h.qB.get 8 rfl,h.qB.get 9 rfl,h.qB.get 10 rfl⟩,⟨h.qB.get 11 rfl,h.qB.get 12 rfl,h.qB.get 13 rfl,h.qB.get 14 rfl,h.qB.get 15 rfl⟩,h.qB.lt⟩
theorem nT.nd(h:nT C a s1 s2 Af cf fl W)(hC:nJ C)(i:Nat)(hi:i<C.l.length):∃ad:Addr,C.A=some ad/\ad.block<W.heap.size/\W.cell? (ad.add (i*44))=some (.int .i64 C.l[i].parent)/\W.rangeAt ad.block ((ad.add (i*44)).off+1) (lj C.l[i].s):=by obtain⟨ad,e,hn⟩:=(hC.tr.nd.below h.b).nd rfl hi;have hr:=hn.range;have hl:=hn.lt;rw[lp]at hr hl;exact⟨ad,e,YK hl h.b.size,hn.par,hr⟩
end
end
section
attribute [local go_sem] lp
theorem yY(a b c:Int)(w:World):(Instr.field 40 (.agg #[a,b,c]) 0).run prog w= .ok (.int .i64 a) w:=by kernel_rfl
theorem yB(a b c:Int)(w:World):(Instr.field 40 (.agg #[a,b,c]) 1).run prog w= .ok (.int .i64 b) w:=by kernel_rfl
attribute [local go_sem] yY yB
def uG(C:Qx)(W W':World):Prop:=∀t,t≠181->Kt t C.B W W'
theorem uG.refl{C:Qx}{W:World}:uG C W W:=λ_ _=>Kt.refl
theorem uG.trans{C:Qx}{W W' W'':World}(h:uG C W W')(h':uG C W' W''):uG C W W'':=λt ht=>(h t ht).trans (h' t ht)
theorem uG.nD{C:Qx}{W W':World}(h:Below W.heap.size W W'):uG C W W':=λ_ _=>Kt.below h
theorem uG.lA{C:Qx}{W W':World}(h:uG C W W')(hC:nJ C){g:Nat}(hg:g∈C.arr)(j:Nat)(u:Value):uG C W (W'.setCell (g,j) u):=
 λt ht=>(h t ht).trans (Kt.setCell (p:=(g,j)) u (.inl (hC.lw g hg).2.1))
theorem uG.qB{C:Qx}{W W':World}(h:uG C W W'){g:Nat}{t:TypeId}{cs:Array Value}(hb:lq W g t cs)(hg:C.B<=g)(ht:t≠181):lq W' g t cs:=h t ht g cs _ hg hb
section
variable(C:Qx)(a s1 s2:Int)(Af:Option Addr)(cf:Nat)(fl:List Fl)(W:World)
theorem rP(hC:nJ C)(h:nT C a s1 s2 Af cf fl W):Calls prog 133 #[.pointer C.bw] W λe w'=>(∃x,e= .returned (.int .i64 x))/\Below W.heap.size W w':=by
 have HF:Hid (∀W',Below W.heap.size W W'->W'.cell? (C.bw,7)=a/\W'.cell? (C.bw,8)=s1/\W'.cell? (C.bw,9)=s2/\C.bw<W'.heap.size):=X6 (λW' hb=>by obtain⟨-,⟨h1,h2,h3,-⟩,-,h4⟩:=(h.below hC hb).cs;exact⟨h1,h2,h3,h4⟩);clear h hC;go_enter func133,ntmps133;go_upto_region 1 with(fail)
 refine wp_region_held_drew (S:=λW'=>Below W.heap.size W W') (by kernel_rfl) ((ZN _ _).drew) (λhS=>?_);refine nk [0,1,2,3,4,5,6,7] ?_;iterate 8
  refine tk hS (y:=by intro W' lr;obtain⟨c7,c8,c9,cl⟩:=HF.out W' lr;go_simp;rfl) (h:=?_)
 refine np ?_;refine mV 8 (λK hK=>?_);go_simp;refine(Xg s1 s2 _).mono ?_;rintro e w9 ⟨⟨x9,rfl⟩,mH⟩;refine ky hK (hS.trans (mH.mono hS.size)) λhS=>?_;clear hK;refine nk [9,10] ?_;iterate 2
  refine tk hS (y:=by intro W' lr;obtain⟨c7,c8,c9,cl⟩:=HF.out W' lr;go_simp;rfl) (h:=?_)
 refine np ?_;refine nR ?_;have HS:=X6 hS;clear hS;go_wp2_with fail;go_ret;exact⟨⟨_,rfl⟩,HS.out⟩
theorem sN(hC:nJ C)(h:nT C a s1 s2 Af cf fl W)(i:Nat):Calls prog 195 #[.pointer C.bw,i] W λe w'=>(∃x y z,e= .returned (.agg #[.int .i64 x,.int .i64 y,.int .i64 z]))/\Below W.heap.size W w':=by
 obtain⟨⟨-,-,-,-,c5,-⟩,-,-,cl⟩:=h.cs;have HZ:Hid (lq (W.alloc (.cells #[lx,lx,lx] 40)) W.heap.size 40 #[lx,lx,lx]/\Below W.heap.size W (W.alloc (.cells #[lx,lx,lx] 40))):=X6 ⟨lq.new _ _ _,bA⟩;by_cases hiu:i<C.us.length
 ·have d0:decide ((i:Int)<(C.us.length:Int))=true:=YC (by omega);have pJ:decide (i<C.us.length)=true:=YC hiu;have wQ:(i:Int)<(C.us.length:Int):=by omega
  obtain⟨ad,e,hb,g0,g1,g2⟩:=(hC.ud.below h.b).uq rfl hiu;have mr:ad.block<W.heap.size:=YK hb h.b.size;rw[e]at c5;obtain⟨U,hU⟩:∃U,C.us[i]=U:=⟨_,rfl⟩;rw[hU]at g0 g1 g2;clear hU e hb h hC;go_enter func195,ntmps195;go_wp2_with fail;refine ZQ (Z2 rfl _ _ W.heap.size 40 #[_,_,_] (0,0) _ rfl (lq.at_ _ _ _ (by simp)) underlying40 rfl (by kernel_rfl)) rfl ?_;exact⟨⟨_,_,_,rfl⟩,bA⟩
 ·have d0:decide ((i:Int)<(C.us.length:Int))=false:=X9 (by omega);have pJ:decide (i<C.us.length)=false:=X9 hiu;clear h hC;go_enter func195,ntmps195;go_wp2_with fail;refine ZQ (Z2 rfl _ _ W.heap.size 40 #[_,_,_] (0,0) _ rfl (lq.at_ _ _ _ (by simp)) underlying40 rfl (by kernel_rfl)) rfl ?_;exact⟨⟨_,_,_,rfl⟩,bA⟩
theorem CQ(hC:nJ C)(h:nT C a s1 s2 Af cf fl W)(i:Nat):Calls prog 227 #[.pointer C.bw,i] W λe w'=>(∃x,e= .returned (.int .i64 x))/\Below W.heap.size W w':=by
 obtain⟨⟨-,-,-,-,-,c6⟩,-,-,cl⟩:=h.cs;by_cases hiu:i<C.hs.length
 ·have d0:decide ((i:Int)<(C.hs.length:Int))=true:=YC (by omega);have pJ:decide (i<C.hs.length)=true:=YC hiu;have wQ:(i:Int)<(C.hs.length:Int):=by omega
  obtain⟨ad,u,e,hb,hu,hc⟩:=(hC.hi.below h.b).at_ hiu;have mr:ad.block<W.heap.size:=YK hb h.b.size;have eu2:u= .int .i64 C.hs[i]:=by unfold lY at hu;rw[aAT,YH hiu]at hu;simpa using hu.symm
  subst eu2;rw[e]at c6;obtain⟨U,hU⟩:∃U,C.hs[i]=U:=⟨_,rfl⟩;rw[hU]at hc;clear hU e hu hb h hC;go_enter func227,ntmps227;go_wp2_with fail;go_ret;exact⟨⟨_,rfl⟩,ZN _ _⟩
 ·have d0:decide ((i:Int)<(C.hs.length:Int))=false:=X9 (by omega);have pJ:decide (i<C.hs.length)=false:=X9 hiu;clear h hC;go_enter func227,ntmps227;go_wp2_with fail;go_ret;exact⟨⟨_,rfl⟩,ZN _ _⟩
theorem rN(hC:nJ C)(h:nT C a s1 s2 Af cf fl W)(i:Nat)(hi:i<C.l.length)(e:Nat)(he:e=0\/e=2\/e=3):Calls prog 193 #[.pointer C.bw,i,.int .i64 (e:Int)] W λe w'=>(∃x,e= .returned (.int .i64 x))/\Below W.heap.size W w':=by
 obtain⟨⟨c0,-⟩,-,-,cl⟩:=h.cs;have wQ:(i:Int)<(C.l.length:Int):=by omega
 obtain⟨ad,hA,qu,-,hr⟩:=h.nd hC i hi;obtain⟨Au,nu,cu,huv⟩:=hC.qt.uv _ (YJ hi);have pP:=X6 hr;have HO:=X6 (me.one C.l[i].s huv);obtain⟨s,hs⟩:∃s,s=C.l[i].s:=⟨_,rfl⟩;rw[<-hs]at pP HO;rw[hA]at c0;have mA:Hid (lq (W.alloc (.cells (lj s).toArray 63)) W.heap.size 63 (lj s).toArray/\Below W.heap.size W (W.alloc (.cells (lj s).toArray 63))):=X6 ⟨lq.new _ _ _,bA⟩;clear hr hs hA huv h hC;obtain rfl | rfl | rfl:=he;all_goals
  go_enter func193,ntmps193;go_upto_region 2 with(first | refine wpList_load_mid rfl 63 (.tmp 15) rfl ad.block ((ad.add (i*44)).off+1) rfl (lj s) _ pP.out underlying63 rfl (by kernel_rfl) ?_ | refine lJ rfl 63 _ _ rfl _ rfl (lj s).toArray rfl rfl 63 _ (by kernel_rfl) rfl HO.out ?_)
  generalize W.alloc _=w1 at mA⊢;obtain⟨y0,y2,y3,z0,z2,z3⟩:w1.cell? (W.heap.size,24)=s.b0/\w1.cell? (W.heap.size,26)=s.b2/\w1.cell? (W.heap.size,27)=s.b3/\w1.cell? (W.heap.size,28)=s.p0/\w1.cell? (W.heap.size,30)=s.p2/\w1.cell? (W.heap.size,31)=s.p3:=⟨mA.1.get 24 rfl,mA.1.get 26 rfl,mA.1.get 27 rfl,mA.1.get 28 rfl,mA.1.get 30 rfl,mA.1.get 31 rfl⟩;have yl:=mA.1.lt;clear c0 cl qu;go_quiet (fail);go_wp2_with fail;go_ret;exact⟨⟨_,rfl⟩,oQ mA.2 _⟩
theorem sM(hC:nJ C)(h:nT C a s1 s2 Af cf fl W)(i:Nat)(hi:i<C.l.length):Calls prog 130 #[.pointer C.bw,i] W λe w'=>(∃x,e= .returned (.int .i64 x))/\Below W.heap.size W w':=by
 obtain⟨⟨c0,-⟩,-,-,cl⟩:=h.cs;have wQ:(i:Int)<(C.l.length:Int):=by omega
 obtain⟨ad,hA,qu,-,hr⟩:=h.nd hC i hi;have pP:=X6 hr;obtain⟨s,hs⟩:∃s,s=C.l[i].s:=⟨_,rfl⟩;rw[<-hs]at pP;rw[hA]at c0;have HU:=X6 (λW' (hb:Below W.heap.size W W')=>sN C a s1 s2 Af cf fl W' hC (h.below hC hb) i);have Cb:=X6 cl;clear hr hs hA h hC;go_enter func130,ntmps130;go_wp2_with (first | refine wpList_load_mid rfl 63 (.tmp 15) rfl ad.block ((ad.add (i*44)).off+1) rfl (lj s) _ pP.out underlying63 rfl (by kernel_rfl) ?_ | (go_at_call 82;refine(rO _ _).mono ?_;rintro e w2 ⟨⟨fx,fy,rfl⟩,mr⟩;have nx:=X6 mr;clear mr c0 qu cl) | (go_at_call 195;refine(HU.out _ nx.out).mono ?_;rintro e w3 ⟨⟨ux,uy,uz,rfl⟩,pn⟩;have oK:=X6 (nx.trans (pn.mono nx.size));clear pn));go_ret;exact⟨⟨_,rfl⟩,oK.out⟩
theorem Ly(hC:nJ C)(h:nT C a s1 s2 Af cf fl W)(i:Nat)(hi:i<C.l.length)(Ep:0<i)(e:Nat)(he:e=0\/e=2):Calls prog 225 #[.pointer C.bw,i,.int .i64 (e:Int)] W λe w'=>(∃x,e= .returned (.int .i64 x))/\Below W.heap.size W w':=by
 have wQ:(i:Int)<(C.l.length:Int):=by omega
 have Cz:=hC.qt.par i hi Ep;obtain⟨p,hp⟩:∃p:Nat,(p:Int)=C.l[i].parent:=⟨C.l[i].parent.toNat,by omega⟩;obtain⟨ad,hA,-⟩:=h.nd hC i hi;obtain⟨s,hs⟩:∃s,s=C.l[i].s:=⟨_,rfl⟩;have HF:Hid (∀W',Below W.heap.size W W'->W'.cell? (C.bw,0)=some (.slice (some ad) C.l.length C.c)/\W'.cell? (ad.add (i*44))=(p:Int)/\W'.cell? (ad.block,(ad.add (i*44)).off+1+16)=some (.int .u8 s.m0.k)/\W'.cell? (ad.block,(ad.add (i*44)).off+1+16+1)=some (.int .i64 s.m0.n)/\W'.cell? (ad.block,(ad.add (i*44)).off+1+20)=some (.int .u8 s.m2.k)/\W'.cell? (ad.block,(ad.add (i*44)).off+1+20+1)=some (.int .i64 s.m2.n)/\C.bw<W'.heap.size/\ad.block<W'.heap.size):=X6 (λW' hb=>by
  have h2:=h.below hC hb;obtain⟨⟨h1,-⟩,-,-,h4⟩:=h2.cs;obtain⟨FT,sP,qu,hpa,hr⟩:=h2.nd hC i hi;rw[hA]at sP;injection sP with sP
  subst sP;rw[hA]at h1;rw[<-hs]at hr;exact⟨h1,by rw[hp];exact hpa,hr 16 _ rfl,hr 17 _ rfl,hr 20 _ rfl,hr 21 _ rfl,h4,qu⟩)
 have HU:=X6 (λW' (hb:Below W.heap.size W W')=>sN C a s1 s2 Af cf fl W' hC (h.below hC hb) p);clear h hC Cz hp hs;obtain rfl | rfl:=he
 ·go_enter func225,ntmps225;go_upto_region 1 with(fail)
  refine wp_region_held_drew (S:=λW'=>Below W.heap.size W W') (by kernel_rfl) ((ZN _ _).drew) (λhS=>?_);refine nk [0,1,2,3,4,5,6,7,8,9,10,11,12,13,14,15,16,17,18,19,20,21] ?_;iterate 22
   refine tk hS (y:=by intro W' lr;obtain⟨c0,cp,m0,m1,m2,m3,cl,al⟩:=HF.out W' lr;go_simp;rfl) (h:=?_)
  refine np ?_;refine mV 22 (λK hK=>?_);go_simp;refine(HU.out _ hS).mono ?_;rintro e w9 ⟨⟨ux,uy,uz,rfl⟩,mH⟩;refine ky hK (hS.trans (mH.mono hS.size)) λhS=>?_;clear hK;refine nk [23] ?_;refine tk hS (y:=by intro W' lr;obtain⟨c0,cp,m0,m1,m2,m3,cl,al⟩:=HF.out W' lr;go_simp;rfl) (h:=?_);refine np ?_;refine mV 24 (λK hK=>?_);go_simp;refine(rj _ _ _ _).mono ?_;rintro e w9 ⟨⟨rx,rb,rfl⟩,mH⟩;refine ky hK (hS.trans (mH.mono hS.size)) λhS=>?_;clear hK;refine nk [25,26,27,28,29] ?_;iterate 5
   refine tk hS (y:=by intro W' lr;obtain⟨c0,cp,m0,m1,m2,m3,cl,al⟩:=HF.out W' lr;go_simp;rfl) (h:=?_)
  refine np ?_;refine nR ?_;have HS:=X6 hS;clear hS;go_wp2_with fail;go_ret;exact⟨⟨_,rfl⟩,HS.out⟩
 ·go_enter func225,ntmps225;go_upto_region 1 with(fail)
  refine wp_region_held_drew (S:=λW'=>Below W.heap.size W W') (by kernel_rfl) ((ZN _ _).drew) (λhS=>?_);refine nk [0,1,2,3,4,5,6,7,8,9,10,11,12,13,14,15,16,17,18,19,20,21] ?_;iterate 22
   refine tk hS (y:=by intro W' lr;obtain⟨c0,cp,m0,m1,m2,m3,cl,al⟩:=HF.out W' lr;go_simp;rfl) (h:=?_)
  refine np ?_;refine mV 22 (λK hK=>?_);go_simp;refine(HU.out _ hS).mono ?_;rintro e w9 ⟨⟨ux,uy,uz,rfl⟩,mH⟩;refine ky hK (hS.trans (mH.mono hS.size)) λhS=>?_;clear hK;refine nk [23] ?_;refine tk hS (y:=by intro W' lr;obtain⟨c0,cp,m0,m1,m2,m3,cl,al⟩:=HF.out W' lr;go_simp;rfl) (h:=?_);refine np ?_;refine mV 24 (λK hK=>?_);go_simp;refine(rj _ _ _ _).mono ?_;rintro e w9 ⟨⟨rx,rb,rfl⟩,mH⟩;refine ky hK (hS.trans (mH.mono hS.size)) λhS=>?_;clear hK;refine nk [25,26,27,28,29] ?_;iterate 5
   refine tk hS (y:=by intro W' lr;obtain⟨c0,cp,m0,m1,m2,m3,cl,al⟩:=HF.out W' lr;go_simp;rfl) (h:=?_)
  refine np ?_;refine nR ?_;have HS:=X6 hS;clear hS;go_wp2_with fail;go_ret;exact⟨⟨_,rfl⟩,HS.out⟩
theorem rY(hC:nJ C)(h:nT C a s1 s2 Af cf fl W):Calls prog 223 #[.pointer C.bw] W λe w'=>(∃v,e= .returned v)/\(∃a' s1' s2',nT C a' s1' s2' Af cf fl w')/\uG C W w':=by
 have HM:=X6 (rP C a s1 s2 Af cf fl W hC h);have HI:=X6 h;have HC:=X6 hC;have HN:=X6 hC.n.2;clear h hC;go_enter func223,ntmps223;go_upto_region 1 with(go_at_call 133;refine HM.mono ?_;rintro e w1 ⟨⟨m,rfl⟩,nY⟩;have EH:=X6 (HI.below HC.out nY);have HK1:Hid (uG C W w1):=X6 (uG.nD nY);clear nY;obtain⟨-,⟨c7,c8,c9,tF⟩,-,cl⟩:=EH.cs;have cz:=EH.qB.frozen)
 have qI:=X6 (EH.setAt HC.out m);have CC:=X6 (HK1.lA HC.out (g:=C.bw) (by simp[Qx.arr]) 7 (.int .i64 m));clear c7 c8 c9 tF cl cz;generalize World.setCell w1 _ _=w2 at qI CC⊢;obtain⟨-,⟨c7,c8,c9,tF⟩,-,cl⟩:=qI.cs;have cz:=qI.qB.frozen;go_upto_region 2 with(fail)
 have wI:=X6 (qI.vT HC.out 0 0);have JW:=X6 ((CC.lA HC.out (g:=C.bw) (by simp[Qx.arr]) 8 (.int .i64 0)).lA HC.out (g:=C.bw) (by simp[Qx.arr]) 9 (.int .i64 0));clear c7 c8 c9 tF cl cz;generalize World.setCell (World.setCell w2 _ _) _ _=w3 at wI JW⊢;clear HI EH qI HM HK1 CC;go_wp2_with fail;go_loopw [2] (λq wr=>∃j:Nat,j<=C.l.length/\q= .int .i64 (j:Int)/\Hid (nT C m 0 0 Af cf fl wr/\uG C W wr)) (λq _=>C.l.length-(intOf q).toNat);case atStart=>exact⟨0,by omega,rfl,X6 ⟨wI.out,JW.out⟩⟩
 case round=>
  clear wI JW;obtain⟨j,hj,rfl,HJJ⟩:=hrel;have HJ:=X6 HJJ.1;have HKJ:=X6 HJJ.2;clear HJJ;have hwj:IntKind.i64.wrap ((j:Int)+1)=(j:Int)+1:=YG _ ⟨by omega,by have:=HN.out;omega⟩;obtain⟨⟨-,-,-,-,-,-⟩,⟨c7,-,-,-⟩,⟨oN,-,AV,-⟩,cl⟩:=HJ.cs;by_cases lN:j<C.l.length
  ·have d0:decide ((j:Int)<(C.l.length:Int))=true:=YC (by omega);have pJ:decide (j<C.l.length)=true:=YC lN;have Cq:(j:Int)<(C.l.length:Int):=(by omega);obtain⟨b,o0⟩:=HJ.op.at_ lN;have ol:=HJ.op.lt;cases b
   ·go_wp2_with fail;go_roundw;case rel=>exact⟨j+1,by omega,by go_num,X6 ⟨HJ.out,HKJ.out⟩⟩
    case measure=>simp[intOf];omega
   ·obtain⟨y,y0⟩:=HJ.y.at_ lN;have yl:=HJ.y.lt;have yz:=HJ.y.frozen;go_upto_region 6 with(fail);go_region;have JN:=X6 ((HJ.Ew HC.out j m).below HC.out (ZN _ _).drew);have CC:=X6 ((HKJ.lA HC.out (g:=C.gy) (by simp[Qx.arr]) j (.int .i64 m)).trans (uG.nD (ZN _ _).drew));clear c7 cl oN AV o0 ol y0 yl yz;generalize World.drew _=w6 at JN CC⊢;obtain⟨-,-,⟨oN,-⟩,cl⟩:=JN.cs;obtain⟨b6,o0⟩:=JN.op.at_ lN;have ol:=JN.op.lt;have oz:=JN.op.frozen;go_wp2_with fail;go_roundw;case rel=>exact⟨j+1,by omega,by go_num,X6 ⟨JN.Oh HC.out j false,CC.lA HC.out (g:=C.go) (by simp[Qx.arr]) j (.bool false)⟩⟩
    case measure=>simp[intOf];omega
  ·have d0:decide ((j:Int)<(C.l.length:Int))=false:=X9 (by omega);have pJ:decide (j<C.l.length)=false:=X9 lN;go_wp2_with fail;go_end0;exact⟨⟨_,rfl⟩,⟨_,_,_,HJ.out⟩,HKJ.out⟩
end
end
end Go.Proofs.YtjhingednpjogaaGreat
