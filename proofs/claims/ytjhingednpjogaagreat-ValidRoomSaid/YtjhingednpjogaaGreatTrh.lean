/- Lemmas for ValidRoom; laid together by a program. -/
import Derived.Test.YtjhingednpjogaaGreatTre
import Derived.Test.YtjhingednpjogaaGreatFb
set_option linter.all false
set_option maxRecDepth 100000
set_option maxHeartbeats 1000000
open Go.RowKit
namespace Go.Proofs.YtjhingednpjogaaGreat
open Go.Proofs.Tryz
section
attribute [local go_sem] lp
structure QX(l:List Nd)(i:Nat)(x:Nd):Prop where
 par:(i=0/\x.parent= -1)\/(0<i/\0<=x.parent/\x.parent<i/\(x.parent=(i:Int)-1\/x.parent∈EZ l (i-1)))
 sty:StyR x.s
 run:x.s.mu.length<=65536
 deep:(EZ l i).length<512
 top:i=0->x.s.kind=1/\x.s.float=0/\x.s.clear=0
 up:∀p:Nat,0<i->x.parent=p->∀y,l[p]? =some y->y.s.kind≠3/\(y.s.kind=2->x.s.kind≠3/\x.s.float=0/\x.s.clear=0)/\(y.s.kind≠2->∀k z,p<k->k<i->nB l k=p->(∀j,p<j->j<k->nB l j≠p)->l[k]? =some z->(z.s.kind=3↔x.s.kind=3))
def Up(l:List Nd)(i:Nat)(P:Int):Prop:=(i=0/\P= -1)\/(0<i/\0<=P/\P<i/\(P=(i:Int)-1\/P∈EZ l (i-1)))
structure NdAns(l:List Nd)(i:Nat)(x:Nd)(w w':World)(e:Ending):Prop where
 ex:∃r:Int,e= .returned r/\(r=0->QX l i x)
 b:Below w.heap.size w w'
section
variable(l:List Nd)(A A2:Option Addr)(c m c2:Nat)(view:Int)(w:World)
theorem Wf(i:Nat)(hi:i<l.length)(hn:l.length<=4294967296)(hr:Reads w w.heap.size 44 A l.length (lI l)){Au:Option Addr}{cu:Nat}(huv:l[i].s.uv= .slice Au l[i].s.mu.length cu): Calls prog 35 #[.agg #[.slice A l.length c,.slice A2 m c2,view],.int .i64 i] w λe w'=>NdAns l i l[i] w w' e:=by
 obtain⟨x,hx⟩:∃x,x=l[i]:=⟨_,rfl⟩;obtain⟨ad,hA,pN⟩:=hr.nd rfl hi;have HC:Hid (∀j u,(oe x)[j]? =some u->w.cell? ((ad.add (i*44)).add j)=some u):=X6 (by
  intro j u hu;obtain⟨Rv,e,hb,hc⟩:=hr.2 (by omega);rw[hA]at e;injection e with e;subst e
  have hj:j<44:=by have:=(YT.1 hu).1;rw[Iv]at this;exact this
  rw[mJ];exact hc _ u (by rw[wH l i j hi hj,<-hx];exact hu))
 have hone:=Nd.one x (by rw[hx];exact huv);have hone2:=me.one x.s (by rw[hx];exact huv);have ru:Hid (ad.block<w.heap.size):=X6 (by have:=pN.lt;rw[lp]at this;exact this);have HC0:Hid (∀j u,(oe x)[j]? =some u->(w.alloc (.cells #[.slice A l.length c,.slice A2 m c2,view] 25)).cell? ((ad.add (i*44)).add j)=some u):=X6 (λj u hu=>(ZV w _ _ (by rw[lp,lp];exact ru.out)).trans (HC.out j u hu));have HRS:Hid (((w.alloc (.cells #[.slice A l.length c,.slice A2 m c2,view] 25)).alloc (.cells (oe x).toArray 65)).rangeAt (w.heap.size+1) 1 (lj x.s)):=X6 (λj v hv=>by have hb:=lq.new (w.alloc (.cells #[.slice A l.length c,.slice A2 m c2,view] 25)) 65 (oe x).toArray;have:=hb.get (1+j) (v:=v) (by simpa[oe,Nat.add_comm 1 j]using hv);simpa using this);have HO:=X6 hone;have SH:=X6 hone2;have wQ:(i:Int)<(l.length:Int):=by omega
 have HX:=X6 hx;have nd0:(oe x)[0]? =some (.int .i64 x.parent):=rfl;have B6:=X6 (λW (k:Nat) (over:Int) (hk:k<l.length) (hb:Below w.heap.size w W)=>P5 l (some ad) A2 c m c2 view W k over hk hn (((hA▸hr).below hb).more hb.size));obtain⟨P,hP⟩:∃P,P=x.parent:=⟨_,rfl⟩;rw[<-hP]at nd0;have yX:=X6 hP;have SY:=X6 (λW (hb:Below w.heap.size w W)=>Rd l (some ad) A2 c m c2 view W i hi hn (((hA▸hr).below hb).more hb.size));have VL:=X6 (λW (p:Nat) (hpi:p<i) (hb:Below w.heap.size w W)=>Qg l (some ad) A2 c m c2 view W p i hpi hi hn (((hA▸hr).below hb).more hb.size));have X0:Hid (∀(k:Nat) (hk:k<l.length),Ki w w.heap.size (ad.add (k*44)) l[k]):=X6 (λk hk=>by obtain⟨Rv,e,h⟩:=hr.nd rfl hk;rw[hA]at e;injection e with e;subst e;exact h);have B9:Hid (x.s.uv= .slice Au x.s.mu.length cu):=X6 (by rw[hx];exact huv);clear hone hone2 hx pN hr huv hP;subst hA;go_enter func35,ntmps35;go_upto_region 3 with(first
  | refine nK rfl 65 _ rfl (ad.add (i*44)) rfl (oe x) _ HC0.out underlying65 rfl (by kernel_rfl) ?_
  | refine lJ rfl 65 _ _ rfl (w.heap.size+1) (by simp) (oe x).toArray rfl rfl 65 _ (by kernel_rfl) rfl HO.out ?_
  | refine wpList_load_mid rfl 63 _ rfl (w.heap.size+1) 1 rfl (lj x.s) _ HRS.out underlying63 rfl (by kernel_rfl) ?_
  | refine lJ rfl 63 _ _ rfl (w.heap.size+1+1) (by simp) (lj x.s).toArray rfl rfl 63 _ (by kernel_rfl) rfl SH.out ?_)
 go_upto_region 4 with(fail);go_cut [51] (λs51 wx=>∃b,s51= .bool b/\Hid ((b=false->Up l i P)/\Below w.heap.size w wx/\lq wx w.heap.size 25 #[.slice (some ad) l.length c,.slice A2 m c2,view]/\lq wx (w.heap.size+1+1) 63 (lj x.s).toArray));case first=>
  have qO:Hid (Below w.heap.size w (((w.alloc (.cells #[.slice (some ad) l.length c,.slice A2 m c2,view] 25)).alloc (.cells (oe x).toArray 65)).alloc (.cells (lj x.s).toArray 63))/\lq (((w.alloc (.cells #[.slice (some ad) l.length c,.slice A2 m c2,view] 25)).alloc (.cells (oe x).toArray 65)).alloc (.cells (lj x.s).toArray 63)) w.heap.size 25 #[.slice (some ad) l.length c,.slice A2 m c2,view]/\lq (((w.alloc (.cells #[.slice (some ad) l.length c,.slice A2 m c2,view] 25)).alloc (.cells (oe x).toArray 65)).alloc (.cells (lj x.s).toArray 63)) (w.heap.size+1+1) 63 (lj x.s).toArray):=X6 ⟨(bA.alloc (by simp) _).alloc (by simp;omega) _,((lq.new _ _ _).alloc _).alloc _,lq.at_ _ _ _ (by simp)⟩;have bt:=qO.2.1.c3;by_cases Ep:i=0
  ·have e0:((i:Int) == 0)=true:=ZR.2 (by omega);have e2:decide ((0:Int)<(i:Int))=false:=X9 (by omega);have e2':decide (0<i)=false:=X9 (by omega);have HI:=X6 Ep;clear Ep;by_cases hP:P= -1
   ·have e1':(P != -1)=false:=(by rw[bne,ZR.2 hP];rfl);have e1:(P == -1)=true:=ZR.2 hP;have HQ:=X6 hP;clear hP;go_wp2_with fail;go_meet;case rel=>exact⟨false,rfl,X6 ⟨λ_=> .inl ⟨HI.out,HQ.out⟩,qO.out⟩⟩
   ·have e1:(P == -1)=false:=ZO.2 hP;have e1':(P != -1)=true:=(by rw[bne,e1];rfl);go_wp2_with fail;go_meet;case rel=>exact⟨true,rfl,X6 ⟨by simp,qO.out⟩⟩
  ·have e0:((i:Int) == 0)=false:=ZO.2 (by omega);have e2:decide ((0:Int)<(i:Int))=true:=YC (by omega);have e2':decide (0<i)=true:=YC (by omega);have Vp:IntKind.i64.wrap ((i:Int)-1)=(i:Int)-1:=YG _ ⟨by omega,by omega⟩;have HI:=X6 (show 0<i by omega);clear Ep;by_cases hq:P=(i:Int)-1
   ·have e1:(P == (i:Int)-1)=true:=ZR.2 hq;have e1':(P != (i:Int)-1)=false:=(by rw[bne,e1];rfl);have HQ:=X6 hq;clear hq;go_wp2_with fail;go_meet;case rel=>exact⟨false,rfl,X6 ⟨λ_=> .inr ⟨HI.out,by have:=HI.out;have:=HQ.out;omega,by have:=HQ.out;omega,.inl HQ.out⟩,qO.out⟩⟩
   have e1:(P == (i:Int)-1)=false:=ZO.2 hq;have e1':(P != (i:Int)-1)=true:=(by rw[bne,e1];rfl);clear hq;cases h1:decide (P<0);rotate_left
   ·go_wp2_with fail;go_meet;case rel=>exact⟨true,rfl,X6 ⟨by simp,qO.out⟩⟩
   cases h2:decide ((i:Int)<=P)
   rotate_left
   ·go_wp2_with fail;go_meet;case rel=>exact⟨true,rfl,X6 ⟨by simp,qO.out⟩⟩
   have mA:=X6 (λW (hb:Below w.heap.size w W)=>by have h:=B6.out W (i-1) P (by have:=HI.out;omega) hb;rw[show((i-1:Nat):Int)=(i:Int)-1 by have:=HI.out;omega]at h;exact h);have Sx:=X6 (show 0<=P/\P<i from⟨by have:=YS h1;omega,by have:=YS h2;omega⟩);go_wp2_with fail;refine(mA.out _ qO.1).mono ?_;rintro e w1 ⟨rfl,nY⟩;have nx:=X6 (nY);clear nY;cases h3:decide (P∈EZ l (i-1))
   ·have H3:=X6 h3;clear h3;go_wp2_with fail;go_meet;case rel=>exact⟨true,rfl,X6 ⟨by simp,qO.1.trans (nx.mono qO.1.size),qO.2.1.below nx.out qO.2.1.lt,qO.2.2.below nx.out qO.2.2.lt⟩⟩
   ·have H3:=X6 (YZ h3);clear h3;go_wp2_with fail;go_meet;case rel=>exact⟨false,rfl,X6 ⟨λ_=> .inr ⟨HI.out,Sx.1,Sx.2,.inr H3.out⟩,qO.1.trans (nx.mono qO.1.size),qO.2.1.below nx.out qO.2.1.lt,qO.2.2.below nx.out qO.2.2.lt⟩⟩
 case rest=>
  obtain⟨b,rfl,H⟩:=hcut;have bt:=H.2.2.1.c3;have y0:=H.2.2.2.get _ (Eh x.s);have y2:=H.2.2.2.get _ (JK x.s);have y3:=H.2.2.2.get _ (Im x.s);have y42:=H.2.2.2.get _ (IF x.s);rw[B9.out]at y42;have hz:=H.2.1.size;have HZ:=X6 hz;cases b;rotate_left
  ·go_wp2_with fail;go_ret;exact⟨⟨6,rfl,by omega⟩,H.2.1⟩
  have HQ:=X6 (H.1 rfl);cases hu:decide (65536<x.s.mu.length);rotate_left
  ·have hu':decide ((65536:Int)<(x.s.mu.length:Int))=true:=YC (by have:=YZ hu;omega);go_wp2_with fail;go_ret;exact⟨⟨7,rfl,by omega⟩,H.2.1⟩
  have hu':decide ((65536:Int)<(x.s.mu.length:Int))=false:=X9 (by have:=YS hu;omega);have HU:=X6 (YS hu);go_wp2_with fail;refine(SY.out _ H.2.1).mono ?_;rintro e w2 ⟨rfl,mr⟩;have E6:Hid (Below w.heap.size w w2/\lq w2 w.heap.size 25 #[.slice (some ad) l.length c,.slice A2 m c2,view]/\lq w2 (w.heap.size+1+1) 63 (lj x.s).toArray):=X6 ⟨H.2.1.trans (mr.mono HZ.out),H.2.2.1.below mr H.2.2.1.lt,H.2.2.2.below mr H.2.2.2.lt⟩;clear bt y0 y2 y3 y42 mr hu hu' hz;have bt:=E6.2.1.c3;have y0:=E6.2.2.get _ (Eh x.s);have y2:=E6.2.2.get _ (JK x.s);have y3:=E6.2.2.get _ (Im x.s);have pP:=X6 (GL w2 _ x.s E6.2.2);cases hd:decide ((512:Int)<1+((EZ l i).length:Int));rotate_left
  ·go_wp2_with fail;go_ret;exact⟨⟨8,rfl,by omega⟩,E6.1⟩
  have HD:=X6 (YS hd);go_upto_region 10 with(fail)
  go_cut [8] (λs8 wx=>∃b,s8= .bool b/\(b=false->x.s.float=0/\x.s.clear=0)/\w2=wx);case first=>
   by_cases f0:x.s.float=0
   ·have f1:(x.s.float == 0)=true:=ZR.2 f0;have f2:(x.s.float != 0)=false:=(by rw[bne,f1];rfl);have F0:=X6 f0;clear f0;by_cases g0:x.s.clear=0
    ·have g1:(x.s.clear == 0)=true:=ZR.2 g0;have g2:(x.s.clear != 0)=false:=(by rw[bne,g1];rfl);have G0:=X6 g0;clear g0;go_wp2_with fail;go_meet;case rel=>exact⟨false,rfl,λ_=>⟨F0.out,G0.out⟩,rfl⟩
    ·have g1:(x.s.clear == 0)=false:=ZO.2 g0;have g2:(x.s.clear != 0)=true:=(by rw[bne,g1];rfl);go_wp2_with fail;go_meet;case rel=>exact⟨true,rfl,by simp,rfl⟩
   ·have f1:(x.s.float == 0)=false:=ZO.2 f0;have f2:(x.s.float != 0)=true:=(by rw[bne,f1];rfl);go_wp2_with fail;go_meet;case rel=>exact⟨true,rfl,by simp,rfl⟩
  case rest=>
   obtain⟨lo,rfl,Tp,rfl⟩:=hcut;have HLO:=X6 Tp;clear Tp;go_wp2_with (refine wpList_load_mid rfl 63 _ rfl (w.heap.size+1+1) 0 rfl (lj x.s) _ pP.out underlying63 rfl (by kernel_rfl) ?_);refine(Q8 x.s _ B9.out).mono ?_;rintro e w3 ⟨⟨rb,rfl,Bj⟩,zB⟩;have Dc:=X6 Bj;have qO:Hid (Below w.heap.size w w3/\lq w3 w.heap.size 25 #[.slice (some ad) l.length c,.slice A2 m c2,view]/\lq w3 (w.heap.size+1+1) 63 (lj x.s).toArray):=X6 ⟨E6.1.trans (zB.mono E6.1.size),E6.2.1.below zB E6.2.1.lt,E6.2.2.below zB E6.2.2.lt⟩;clear bt y0 y2 y3 Bj zB;have bt:=qO.2.1.c3;have y0:=qO.2.2.get _ (Eh x.s);cases rb
   ·go_wp2_with fail;go_ret;exact⟨⟨6,rfl,by omega⟩,qO.1⟩
   have HSR:=X6 (Dc.out (by simp));have E5:=X6 (λ(h1:i=0->x.s.kind=1/\x.s.float=0/\x.s.clear=0) (h2:∀p:Nat,0<i->x.parent=p->∀y,l[p]? =some y->y.s.kind≠3/\(y.s.kind=2->x.s.kind≠3/\x.s.float=0/\x.s.clear=0)/\(y.s.kind≠2->∀k z,p<k->k<i->nB l k=p->(∀j,p<j->j<k->nB l j≠p)->l[k]? =some z->(z.s.kind=3↔x.s.kind=3)))=>(⟨by rw[<-yX.out];exact HQ.out,HSR.out,by have:=HU.out;omega,by have:=HD.out;omega,h1,h2⟩:QX l i x));by_cases Ep:i=0
   ·have e0:((i:Int) == 0)=true:=ZR.2 (by omega);have HI:=X6 Ep;clear Ep;by_cases hk:x.s.kind=1
    ·have k1:(x.s.kind == 1)=true:=ZR.2 hk;have k2:(x.s.kind != 1)=false:=(by rw[bne,k1];rfl);have HK:=X6 hk;clear hk;cases lo
     ·go_wp2_with fail;go_ret;exact⟨⟨0,rfl,λ_=>HX.out▸E5.out (λ_=>⟨HK.out,HLO.out (by simp)⟩) (λp h0=>by have:=HI.out;omega)⟩,qO.1⟩
     ·go_wp2_with fail;go_ret;exact⟨⟨6,rfl,by omega⟩,qO.1⟩
    ·have k1:(x.s.kind == 1)=false:=ZO.2 hk;have k2:(x.s.kind != 1)=true:=(by rw[bne,k1];rfl);go_wp2_with fail;go_ret;exact⟨⟨6,rfl,by omega⟩,qO.1⟩
   have e0:((i:Int) == 0)=false:=ZO.2 (by omega);obtain⟨q,hq⟩:=ZY (show 0<=P by have:=HQ.out;unfold Up at this;omega);have KQ:q<i:=(by have:=HQ.out;unfold Up at this;omega);have pW:q<l.length:=(by omega);obtain⟨y,hy⟩:∃y,y=l[q]:=⟨_,rfl⟩;have HN:=X6 (X0.out q pW);have HY:=X6 hy;have z0:w3.cell? (ad.block,(ad.add (q*44)).off+1)=some (.int .u8 y.s.kind):=(qO.1.cell (p:=(ad.block,(ad.add (q*44)).off+1)) ru.out).trans (by rw[hy,<-lp ad (q*44)];exact HN.cs 0 _ rfl);clear hy;subst hq;have HI:=X6 (show 0<i by omega);clear Ep;by_cases y3:y.s.kind=3
   ·have p3:(y.s.kind == 3)=true:=ZR.2 y3;clear y3;go_wp2_with fail;go_ret;exact⟨⟨6,rfl,by omega⟩,qO.1⟩
   have p3:(y.s.kind == 3)=false:=ZO.2 y3;have Yn:=X6 y3;clear y3;by_cases y2:y.s.kind=2
   ·have p2:(y.s.kind == 2)=true:=ZR.2 y2;have HY2:=X6 y2;clear y2;by_cases x3:x.s.kind=3
    ·have k3:(x.s.kind == 3)=true:=ZR.2 x3;clear x3;go_wp2_with fail;go_ret;exact⟨⟨6,rfl,by omega⟩,qO.1⟩
    have k3:(x.s.kind == 3)=false:=ZO.2 x3;have zF:=X6 x3;clear x3;cases lo
    ·go_wp2_with fail;go_ret;exact⟨⟨0,rfl,λ_=>HX.out▸E5.out (λh=>by have:=HI.out;omega) (λp h0 hp v hv=>by
      have LW:p=q:=(by have:=yX.out;omega);subst LW;have hvy:v=y:=by rw[HY.out];rw[YH pW]at hv;injection hv with hv;exact hv.symm
      subst hvy;exact⟨Yn.out,λ_=>⟨zF.out,HLO.out (by simp)⟩,λh=>absurd HY2.out h⟩)⟩,qO.1⟩
    ·go_wp2_with fail;go_ret;exact⟨⟨6,rfl,by omega⟩,qO.1⟩
   have p2:(y.s.kind == 2)=false:=ZO.2 y2;have HY2:=X6 y2;clear y2;go_wp2_with fail;refine(VL.out w3 q KQ qO.1).mono ?_;rintro e w4 ⟨⟨r,rfl,hr4⟩,wg⟩;have vL:Hid (Below w.heap.size w w4/\lq w4 w.heap.size 25 #[.slice (some ad) l.length c,.slice A2 m c2,view]/\lq w4 (w.heap.size+1+1) 63 (lj x.s).toArray):=X6 ⟨qO.1.trans (wg.mono qO.1.size),qO.2.1.below wg qO.2.1.lt,qO.2.2.below wg qO.2.2.lt⟩;clear bt y0 z0 wg;have bt:=vL.2.1.c3;have y0:=vL.2.2.get _ (Eh x.s);rcases hr4 with⟨k,rfl,h1,h2,h3,h4⟩ | ⟨rfl,h4⟩
   ·have nF:k<l.length:=(by omega);obtain⟨z,hz⟩:∃z,z=l[k]:=⟨_,rfl⟩;have z0:w4.cell? (ad.block,(ad.add (k*44)).off+1)=some (.int .u8 z.s.kind):=(vL.1.cell (p:=(ad.block,(ad.add (k*44)).off+1)) ru.out).trans (by rw[hz,<-lp ad (k*44)];exact(X0.out k nF).cs 0 _ rfl);have HZ4:=X6 hz;have H3:=X6 (And.intro h3 h4);have HH:=X6 (And.intro h1 h2);clear hz h3 h4;have d0:decide ((0:Int)<=(k:Int))=true:=YC (by omega);have dk:decide ((k:Int)<(l.length:Int))=true:=YC (by omega);by_cases zx:(z.s.kind=3↔x.s.kind=3)
    ·have HZX:=X6 zx;have hok:Hid (QX l i l[i]):=X6 (HX.out▸E5.out (λh=>by have:=HI.out;omega) (λp h0 hp v hv=>by
      have LW:p=q:=(by have:=yX.out;omega);subst LW;have hvy:v=y:=by rw[HY.out];rw[YH pW]at hv;injection hv with hv;exact hv.symm
      subst hvy;refine⟨Yn.out,λh=>absurd h HY2.out,λ_ k' z' a1 a2 a3 a4 a5=>?_⟩;have O0:k'=k:=by
       rcases Nat.lt_trichotomy k' k with h | h | h
       ·exact absurd a3 (H3.2 k' a1 h)
       ·exact h
       ·exact absurd H3.1 (a4 k HH.1 h)
      subst O0;rw[YH nF]at a5;injection a5 with a5
      rw[<-a5,<-HZ4.out];exact HZX.out))
     by_cases zk:z.s.kind=3
     ·have e1:(z.s.kind == 3)=true:=ZR.2 zk;have e2:(x.s.kind == 3)=true:=ZR.2 (zx.1 zk);clear zx zk;go_wp2_with fail;go_quiet (fail);go_wp2_with fail;go_ret;exact⟨⟨0,rfl,λ_=>hok.out⟩,⟨vL.1.os,vL.1.tape,vL.1.output,vL.1.size,vL.1.block⟩⟩
     ·have e1:(z.s.kind == 3)=false:=ZO.2 zk;have e2:(x.s.kind == 3)=false:=ZO.2 (λh=>zk (zx.2 h));clear zx zk;go_wp2_with fail;go_quiet (fail);go_wp2_with fail;go_ret;exact⟨⟨0,rfl,λ_=>hok.out⟩,⟨vL.1.os,vL.1.tape,vL.1.output,vL.1.size,vL.1.block⟩⟩
    ·by_cases zk:z.s.kind=3
     ·have e1:(z.s.kind == 3)=true:=ZR.2 zk;have e2:(x.s.kind == 3)=false:=ZO.2 (λh=>zx ⟨λ_=>h,λ_=>zk⟩);clear zx zk;go_wp2_with fail;go_quiet (fail);go_wp2_with fail;go_ret;exact⟨⟨6,rfl,by omega⟩,⟨vL.1.os,vL.1.tape,vL.1.output,vL.1.size,vL.1.block⟩⟩
     ·have e1:(z.s.kind == 3)=false:=ZO.2 zk;have e2:(x.s.kind == 3)=true:=ZR.2 (by by_cases h:x.s.kind=3;exact h;exact absurd ⟨λa=>absurd a zk,λa=>absurd a h⟩ zx);clear zx zk;go_wp2_with fail;go_quiet (fail);go_wp2_with fail;go_ret;exact⟨⟨6,rfl,by omega⟩,⟨vL.1.os,vL.1.tape,vL.1.output,vL.1.size,vL.1.block⟩⟩
   ·have H4:=X6 h4;clear h4;have hok:Hid (QX l i l[i]):=X6 (HX.out▸E5.out (λh=>by have:=HI.out;omega) (λp h0 hp v hv=>by
     have LW:p=q:=(by have:=yX.out;omega);subst LW;have hvy:v=y:=by rw[HY.out];rw[YH pW]at hv;injection hv with hv;exact hv.symm
     subst hvy;exact⟨Yn.out,λh=>absurd h HY2.out,λ_ k' z' a1 a2 a3 a4 a5=>absurd a3 (H4.out k' a1 a2)⟩))
    go_wp2_with fail;go_quiet (fail);go_wp2_with fail;go_ret;exact⟨⟨0,rfl,λ_=>hok.out⟩,⟨vL.1.os,vL.1.tape,vL.1.output,vL.1.size,vL.1.block⟩⟩
end
end
section
attribute [local go_sem] lp
structure O8(l:List Nd)(adv:List Int)(view:Int):Prop where
 n:0<l.length/\l.length<=65536
 m:adv.length<=4096
 v:0<=view/\view<=1099511627776
 a:∀(j:Nat) (h:j<adv.length),0<=adv[j]/\adv[j]<=1099511627776
 nd:∀(i:Nat) (h:i<l.length),QX l i l[i]
structure Uo(l:List Nd)(adv:List Int)(view:Int)(w w':World)(e:Ending):Prop where
 ex:∃n r:Int,e= .returned (.tuple #[n,r])/\(r=0->O8 l adv view)
 b:Below w.heap.size w w'
section
variable(l:List Nd)(adv:List Int)(A A2:Option Addr)(c c2:Nat)(view:Int)(w:World)
theorem Hn(hr:Reads w w.heap.size 44 A l.length (lI l))(ha:Reads w w.heap.size 1 A2 adv.length (lY adv))(hu:∀x∈l,∃Au cu,x.s.uv= .slice Au x.s.mu.length cu): Calls prog 17 #[.agg #[.slice A l.length c,.slice A2 adv.length c2,view]] w λe w'=>Uo l adv view w w' e:=by
 have HR:=X6 hr;have HA:=X6 ha;have vS:Hid (lq (w.alloc (.cells #[.slice A l.length c,.slice A2 adv.length c2,view] 25)) w.heap.size 25 #[.slice A l.length c,.slice A2 adv.length c2,view]):=X6 (lq.new _ _ _);have mA:Hid (Below w.heap.size w (w.alloc (.cells #[.slice A l.length c,.slice A2 adv.length c2,view] 25))):=X6 bA;have HNO:=X6 (λ(hn:l.length<=4294967296) W (i:Nat) (hi:i<l.length) (hb:Below w.heap.size w W)=>by obtain⟨Au,cu,huv⟩:=hu l[i] (YJ hi);exact Wf l A A2 c adv.length c2 view W i hi hn ((hr.below hb).more hb.size) huv);clear hr ha hu;cases h1:decide (65536<l.length);rotate_left
 ·have KW:decide ((65536:Int)<(l.length:Int))=true:=YC (by have:=YZ h1;omega);go_enter func17,ntmps17;go_wp2_with fail;go_ret2;exact⟨⟨_,7,rfl,by omega⟩,mA.out⟩
 have KW:decide ((65536:Int)<(l.length:Int))=false:=X9 (by have:=YS h1;omega);have H1:=X6 (YS h1);cases h2:decide (4096<adv.length);rotate_left
 ·have h2':decide ((4096:Int)<(adv.length:Int))=true:=YC (by have:=YZ h2;omega);go_enter func17,ntmps17;go_wp2_with fail;go_ret2;exact⟨⟨_,7,rfl,by omega⟩,mA.out⟩
 have h2':decide ((4096:Int)<(adv.length:Int))=false:=X9 (by have:=YS h2;omega);have H2:=X6 (YS h2);by_cases h3:l.length=0
 ·have h3':((l.length:Int) == 0)=true:=ZR.2 (by omega);have h3'':(l.length == 0)=true:=ZR.2 h3;clear h3;go_enter func17,ntmps17;go_wp2_with fail;go_ret2;exact⟨⟨_,6,rfl,by omega⟩,mA.out⟩
 have h3':((l.length:Int) == 0)=false:=ZO.2 (by omega);have h3'':(l.length == 0)=false:=ZO.2 h3;have H3:=X6 h3;clear h3;cases h4:decide (view<0);rotate_left
 ·go_enter func17,ntmps17;go_wp2_with fail;go_ret2;exact⟨⟨_,6,rfl,by omega⟩,mA.out⟩
 cases h5:decide (1099511627776<view)
 rotate_left
 ·go_enter func17,ntmps17;go_wp2_with fail;go_ret2;exact⟨⟨_,6,rfl,by omega⟩,mA.out⟩
 have H45:=X6 (And.intro (YS h4) (YS h5));have XD:=X6 (HNO.out (by have:=H1.out;omega));go_enter func17,ntmps17;go_wp2_with fail;clear h1 KW h2 h2' h3' h3'' h4 h5;go_loopw [4] (λiv wr=>∃k:Nat,k<=adv.length/\iv= .int .i64 k/\Hid ((∀(j:Nat) (h:j<adv.length),j<k->0<=adv[j]/\adv[j]<=1099511627776)/\Below w.heap.size w wr/\lq wr w.heap.size 25 #[.slice A l.length c,.slice A2 adv.length c2,view])) (λiv _=>adv.length-(intOf iv).toNat);case atStart=>exact⟨0,by omega,rfl,X6 ⟨λj h h2=>by omega,mA.out,vS.out⟩⟩
 case round=>
  obtain⟨k,hk,rfl,H⟩:=hrel;have bt:=H.2.2.c3;by_cases lN:k<adv.length
  ·have d0:decide ((k:Int)<(adv.length:Int))=true:=YC (by omega);have pJ:decide (k<adv.length)=true:=YC lN;have C2:IntKind.i64.wrap ((k:Int)+1)=(k:Int)+1:=YG _ ⟨by omega,by have:=H2.out;omega⟩;obtain⟨ad,u,rfl,qu,hx,hc⟩:=(HA.below H.2.1).at_ lN;have hu:u= .int .i64 adv[k]:=(by simpa[lY,lN]using hx.symm);subst hu;obtain⟨a,ha⟩:∃a,a=adv[k]:=⟨_,rfl⟩;rw[<-ha]at hc;have HAK:=X6 ha;clear ha hx qu;cases g1:decide (a<0);rotate_left
   ·go_wp2_with fail;go_ret2;exact⟨⟨_,6,rfl,by omega⟩,H.2.1⟩
   cases g2:decide (1099511627776<a)
   rotate_left
   ·go_wp2_with fail;go_ret2;exact⟨⟨_,6,rfl,by omega⟩,H.2.1⟩
   have HG:=X6 (And.intro (YS g1) (YS g2));go_wp2_with fail;go_roundw;case rel=>exact⟨k+1,by omega,by go_num,X6 ⟨λj h h2=>by
    by_cases hj:j=k
    ·subst hj;have:=HG.out;have:=HAK.out;omega
    ·exact H.1 j h (by omega),H.2.1,H.2.2⟩⟩
   case measure=>simp[intOf];omega
  ·have d0:decide ((k:Int)<(adv.length:Int))=false:=X9 (by omega);have pJ:decide (k<adv.length)=false:=X9 lN;have HL:=X6 (show k=adv.length by omega);go_wp2_with fail;go_loopw [5] (λiv wr=>∃i:Nat,i<=l.length/\iv= .int .i64 i/\Hid ((∀(j:Nat) (h:j<l.length),j<i->QX l j l[j])/\Below w.heap.size w wr/\lq wr w.heap.size 25 #[.slice A l.length c,.slice A2 adv.length c2,view])) (λiv _=>l.length-(intOf iv).toNat);case atStart=>exact⟨0,by omega,rfl,X6 ⟨λj h h2=>by omega,H.2⟩⟩
   case round=>
    obtain⟨i,hi,rfl,H6⟩:=hrel;have HK:=X6 (λj h=>H.1 j h (by have:=HL.out;omega));clear bt;have bt:=H6.2.2.c3;by_cases lN:i<l.length
    ·have d0:decide ((i:Int)<(l.length:Int))=true:=YC (by omega);have pJ:decide (i<l.length)=true:=YC lN;have C2:IntKind.i64.wrap ((i:Int)+1)=(i:Int)+1:=YG _ ⟨by omega,by have:=H1.out;omega⟩;go_wp2_with fail;refine(XD.out _ i lN H6.2.1).mono ?_;rintro e w2 ⟨⟨r,rfl,hr⟩,hb⟩;have nx:=X6 hb;have Hg:=X6 hr;clear hb hr;by_cases vU:r=0
     ·have e1:(r == 0)=true:=ZR.2 vU;have e2:(r != 0)=false:=(by rw[bne,e1];rfl);have R5:=X6 (Hg.out vU);clear vU;go_wp2_with fail;go_roundw;case rel=>exact⟨i+1,by omega,by go_num,X6 ⟨λj h h2=>by
       by_cases hj:j=i
       ·subst hj;exact R5.out
       ·exact H6.1 j h (by omega),H6.2.1.trans (nx.mono H6.2.1.size),H6.2.2.below nx.out H6.2.2.lt⟩⟩
      case measure=>simp[intOf];omega
     ·have e1:(r == 0)=false:=ZO.2 vU;have e2:(r != 0)=true:=(by rw[bne,e1];rfl);go_wp2_with fail;go_ret2;exact⟨⟨_,r,rfl,λh=>absurd h vU⟩,H6.2.1.trans (nx.mono H6.2.1.size)⟩
    ·have d0:decide ((i:Int)<(l.length:Int))=false:=X9 (by omega);have pJ:decide (i<l.length)=false:=X9 lN;go_wp2_with fail;go_ret2;exact⟨⟨_,0,rfl,λ_=>⟨⟨by have:=H3.out;omega,by have:=H1.out;omega⟩,by have:=H2.out;omega,by have:=H45.out;omega,HK.out,λj h=>H6.1 j h (by omega)⟩⟩,H6.2.1⟩
end
end
section
attribute [local go_sem] lp
def On(l:List Nd):Nat:=(l.map λx=>x.s.mu.length).sum
def unM(l:List Nd):Nat:=(l.map λx=>min x.s.mu.length 5000).sum
theorem unM_le(l:List Nd)(h:unM l<=4000):On l<=4000:=by
 have:∀l:List Nd,unM l<=4000->On l=unM l:=by
  intro l;induction l with
  | nil=>intro _;rfl
  | cons a t ih=>intro h;simp only[On,unM,Y6,ZF]at*;have:=ih (by omega);omega
 rw[this l h];exact h
theorem Wg(l:List Nd)(k:Nat)(h:k<l.length):unM (l.take (k+1))=unM (l.take k)+min l[k].s.mu.length 5000:=by unfold unM;rw[aB8,YH h,ZJ,Xn];simp
structure Bb(l:List Nd)(adv:List Int)(view:Int):Prop where
 ok:O8 l adv view
 n:l.length<=300
 u:On l<=4000
section
variable(l:List Nd)(adv:List Int)(A A2:Option Addr)(c c2:Nat)(view:Int)(w:World)
theorem RL(hr:Reads w w.heap.size 44 A l.length (lI l))(ha:Reads w w.heap.size 1 A2 adv.length (lY adv))(hu:∀x∈l,∃Au cu,x.s.uv= .slice Au x.s.mu.length cu): Calls prog 5 #[.agg #[.slice A l.length c,.slice A2 adv.length c2,view]] w λe w'=>CF (Bb l adv view) w w' e:=by
 have HR:=X6 hr;have HU:=X6 hu;have vS:Hid (lq (w.alloc (.cells #[.slice A l.length c,.slice A2 adv.length c2,view] 25)) w.heap.size 25 #[.slice A l.length c,.slice A2 adv.length c2,view]):=X6 (lq.new _ _ _);have mA:Hid (Below w.heap.size w (w.alloc (.cells #[.slice A l.length c,.slice A2 adv.length c2,view] 25))):=X6 bA;have HCH:=X6 (λW (hb:Below w.heap.size w W)=>Hn l adv A A2 c c2 view W ((hr.below hb).more hb.size) ((ha.below hb).more hb.size) hu);clear hr ha hu;cases h1:decide (300<l.length);rotate_left
 ·have KW:decide ((300:Int)<(l.length:Int))=true:=YC (by have:=YZ h1;omega);go_enter func5,ntmps5;go_wp2_with fail;go_ret;exact⟨⟨false,rfl,by simp⟩,mA.out⟩
 have KW:decide ((300:Int)<(l.length:Int))=false:=X9 (by have:=YS h1;omega);have H1:=X6 (YS h1);go_enter func5,ntmps5;go_wp2_with fail;clear h1 KW;go_loopw [3,4] (λnv iv wr=>∃k n:Nat,k<=l.length/\n<=9000/\nv= .int .i64 n/\iv= .int .i64 k/\Hid (n=unM (l.take k)/\Below w.heap.size w wr/\lq wr w.heap.size 25 #[.slice A l.length c,.slice A2 adv.length c2,view])) (λ_ iv _=>l.length-(intOf iv).toNat);case atStart=>exact⟨0,0,by omega,by omega,rfl,rfl,X6 ⟨rfl,mA.out,vS.out⟩⟩
 case round=>
  obtain⟨k,n,hk,hn9,rfl,rfl,H⟩:=hrel;have bt:=H.2.2.c3;cases hn:decide (n<=4000)
  ·have Yl:decide ((n:Int)<=4000)=false:=X9 (by have:=YS hn;omega);have hm:decide (4000<n)=true:=YC (by have:=YS hn;omega);have hm':decide ((4000:Int)<(n:Int))=true:=YC (by have:=YS hn;omega);by_cases lN:k<l.length
   ·have d0:decide ((k:Int)<(l.length:Int))=true:=YC (by omega);have pJ:decide (k<l.length)=true:=YC lN;go_wp2_with fail;go_ret;exact⟨⟨false,rfl,by simp⟩,H.2.1⟩
   ·have d0:decide ((k:Int)<(l.length:Int))=false:=X9 (by omega);have pJ:decide (k<l.length)=false:=X9 lN;go_wp2_with fail;go_ret;exact⟨⟨false,rfl,by simp⟩,H.2.1⟩
  have Yl:decide ((n:Int)<=4000)=true:=YC (by have:=YZ hn;omega);have hm:decide (4000<n)=false:=X9 (by have:=YZ hn;omega);have hm':decide ((4000:Int)<(n:Int))=false:=X9 (by have:=YZ hn;omega);have HN:=X6 (YZ hn);by_cases lN:k<l.length
  ·have d0:decide ((k:Int)<(l.length:Int))=true:=YC (by omega);have pJ:decide (k<l.length)=true:=YC lN;have C2:IntKind.i64.wrap ((k:Int)+1)=(k:Int)+1:=YG _ ⟨by omega,by have:=H1.out;omega⟩;obtain⟨ad,rfl,pN⟩:=(HR.below H.2.1).nd rfl lN;obtain⟨Au,cu,huv⟩:=HU.out l[k] (YJ lN);obtain⟨u,hu⟩:∃u,u=l[k].s.mu.length:=⟨_,rfl⟩;have c0:wr.cell? (ad.block,(ad.add (k*44)).off+43)=some (.slice Au u cu):=(by rw[<-lp ad (k*44),pN.cs 42 _ rfl,huv,hu]);have HS:=X6 (Wg l k lN);rw[<-hu]at HS;clear pN huv hu;by_cases h5:u<=5000
   ·have a1:decide (u<=5000)=true:=YC h5;have a2:decide (5000<u)=false:=X9 (by omega);have a3:decide (u<5000)=decide (u<5000):=rfl;have mW:IntKind.i64.wrap ((n:Int)+(u:Int))=(n:Int)+(u:Int):=YG _ ⟨by omega,by omega⟩;have HM:=X6 h5;clear h5;go_wp2_with fail;go_roundw;case rel=>exact⟨k+1,n+u,by omega,by have:=HN.out;have:=HM.out;omega,by rw[YO (by have:=HM.out;omega),aDE],by go_num,X6 ⟨by rw[HS.out,<-H.1];have:=HM.out;omega,H.2⟩⟩
    case measure=>simp[intOf];omega
   ·have a1:decide (u<=5000)=false:=X9 h5;have a2:decide (5000<u)=true:=YC (by omega);have mW:IntKind.i64.wrap ((n:Int)+5000)=(n:Int)+5000:=YG _ ⟨by omega,by omega⟩;have HM:=X6 h5;clear h5;go_wp2_with fail;go_roundw;case rel=>exact⟨k+1,n+5000,by omega,by have:=HN.out;omega,by rw[YP (by have:=HM.out;omega),aDE];rfl,by go_num,X6 ⟨by rw[HS.out,<-H.1];have:=HM.out;omega,H.2⟩⟩
    case measure=>simp[intOf];omega
  ·have d0:decide ((k:Int)<(l.length:Int))=false:=X9 (by omega);have pJ:decide (k<l.length)=false:=X9 lN;have HL:=X6 (show k=l.length by omega);go_wp2_with fail;refine(HCH.out wr H.2.1).mono ?_;rintro e w2 ⟨⟨n2,r,rfl,hr⟩,hb⟩;have nx:=X6 (H.2.1.trans (hb.mono H.2.1.size));have Hg:=X6 hr;clear hb hr;by_cases vU:r=0
   ·have e1:(r == 0)=true:=ZR.2 vU;have R5:=X6 (Hg.out vU);clear vU;go_wp2_with fail;go_ret;exact⟨⟨true,rfl,λ_=>⟨R5.out,by have:=H1.out;omega,unM_le l (by have h2:=H.1;have:=HN.out;rw[HL.out,ZZ]at h2;omega)⟩⟩,nx.out⟩
   ·have e1:(r == 0)=false:=ZO.2 vU;go_wp2_with fail;go_ret;exact⟨⟨false,rfl,by simp⟩,nx.out⟩
end
end
end Go.Proofs.YtjhingednpjogaaGreat
