/- Lemmas for ValidRoom; laid together by a program. -/
import Derived.Test.YtjhingednpjogaaGreatQe
import Derived.Test.YtjhingednpjogaaGreatRwords
set_option linter.all false
set_option maxRecDepth 100000
set_option maxHeartbeats 1000000
namespace Go.Proofs.YtjhingednpjogaaGreat
open Go.Proofs.Tryz
open Go.RowKit
attribute [local go_sem] lp
theorem DX(l t:List Int)(A B:Option Addr)(c d:Nat)(w:World)(hl:xh l)(ht:rM t)(hn:l.length<=1000000)(hc:l.length<=c)(tf:Reads w w.heap.size 1 A l.length (uP l))(RU:Reads w w.heap.size 1 B t.length (lY t)): Calls prog 73 #[.slice A l.length c,.slice B t.length d] w λe w'=>(∃A' c',e= .returned (.tuple #[.slice A' (ng t l).1.length c',.bool (ng t l).2])/\w'.ownsRow w.heap.size 201 5 (.slice A' (ng t l).1.length c') (ng t l).1.length (mC (ng t l).1))/\Below w.heap.size w w':=
 (NH l t A B c d w hl ht hn hc tf RU).mono λe w' ⟨v,he,ho,hb⟩=>by obtain⟨A',c',rfl⟩:=lZ ho;exact⟨⟨A',c',he,ho⟩,hb⟩
section
variable(l:List Nd)(adv ks:List Int)(A A2 Ak:Option Addr)(c c2 ck:Nat)(view:Int)(w:World)
theorem yH(ht:P7 w w.heap.size A A2 l adv)(hk:Reads w w.heap.size 1 Ak ks.length (lY ks))(qA:∀k∈ks,0<=k/\k<l.length)(pz:ks.length<=1000000)(nt:Pd l ks<=1000000)(XT:∀x∈l,x.s.mu.length<=1000000): Calls prog 72 #[.agg #[.slice A l.length c,.slice A2 adv.length c2,view],.slice Ak ks.length ck] w λe w'=>(∃v4 v5,e= .returned (.tuple #[v4,v5])/\w'.ownsRow (w.heap.size+1) 201 5 v4 (lP l adv ks).1.length (mC (lP l adv ks).1)/\w'.ownsRow (w.heap.size+1) 3 1 v5 (lP l adv ks).1.length (lY (lP l adv ks).2.1))/\Below w.heap.size w w':=by
 have HT:=X6 ht;have HU1:=X6 XT;clear XT;have JJ:=X6 qA;have HKR:=X6 hk;have E8:=X6 pz;have HUN:=X6 nt;have vp:Hid (IG w (w.alloc (.cells #[.slice A l.length c,.slice A2 adv.length c2,view] 25)) (.slice none 0 0) (.slice none 0 0) [] [] #[.slice A l.length c,.slice A2 adv.length c2,view]):=X6 ⟨⟨rfl,.inl ⟨rfl,rfl⟩⟩,⟨rfl,.inl ⟨rfl,rfl⟩⟩,rfl,bA,lq.new _ _ _⟩;have HN:=X6 ht.n;clear ht qA hk pz nt;go_enter func72,ntmps72;go_wp2_with fail;go_loopw [6,7,8] (λv4 v5 iv wr=>∃j:Nat,j<=ks.length/\iv= .int .i64 (j:Int)/\Hid (IG w wr v4 v5 (lP l adv (ks.take j)).1 (lP l adv (ks.take j)).2.1 #[.slice A l.length c,.slice A2 adv.length c2,view])) (λ_ _ iv _=>ks.length-(intOf iv).toNat);case atStart=>exact⟨0,by omega,rfl,vp⟩
 case round=>
  obtain⟨j,hj,rfl,H⟩:=hrel;have bt:=H.bx.c3;have hwj:IntKind.i64.wrap ((j:Int)+1)=(j:Int)+1:=YG _ ⟨by omega,by have:=E8.out;omega⟩;by_cases lN:j<ks.length;rotate_left
  ·have d0:decide ((j:Int)<(ks.length:Int))=false:=X9 (by omega);have pJ:decide (j<ks.length)=false:=X9 lN;have HL:=X6 (show ks.take j=ks from YY (by omega));have HG:=H.out;rw[HL.out]at HG;have HGG:=X6 HG;clear HG H;go_wp2_with fail;go_ret2;exact⟨⟨_,_,rfl,HGG.o4,HGG.o5⟩,HGG.b⟩
  have d0:decide ((j:Int)<(ks.length:Int))=true:=YC (by omega);have pJ:decide (j<ks.length)=true:=YC lN;obtain⟨zD,zH⟩:=JJ.out ks[j] (YJ lN);obtain⟨q,hq⟩:=ZY zD;have pW:q<l.length:=by omega
  obtain⟨CA,u,Pg,qu,hx,hc⟩:=(HKR.below H.b).at_ lN;subst Pg;have hu:u= .int .i64 (q:Int):=by rw[<-hq];simpa[lY,lN]using hx.symm
  subst hu;have e1:decide ((q:Int)<0)=false:=X9 (by omega);have e2:decide ((l.length:Int)<=(q:Int))=false:=X9 (by omega);have e2':decide (l.length<=q)=false:=X9 (by omega);have e3:decide ((q:Int)<(l.length:Int))=true:=YC (by omega);have HQ:=X6 hq;have Mh:Hid (∀W,Below w.heap.size w W->W.cell? (CA.add j)=(q:Int)/\CA.block<W.heap.size):=X6 (λW hb=>by obtain⟨FT,u2,e,h1,h2,h3⟩:=(HKR.below hb).at_ lN;injection e with e;subst e;rw[hx]at h2;injection h2 with h2;subst h2;exact⟨h3,YK h1 hb.size⟩);have KQ:(q:Int)<(l.length:Int):=by omega
  have Cq:(j:Int)<(ks.length:Int):=by omega
  obtain⟨ad,hA,pN⟩:=HT.nd.nd rfl pW;subst hA;obtain⟨Au,cu,huv,Et,Jq,Nt,nt⟩:=HT.un l[q] (YJ pW);have HWS:Hid (Ox none A2 ad q l.length adv.length c c2 w.heap.size l[q].s.uv wr):=X6 ⟨H.bx.lt,YK (by have:=pN.lt;rw[lp]at this;exact this) H.b.size,bt.1,bt.2.1,(H.b.cell (p:=(ad.block,(ad.add (q*44)).off+43)) (by have:=pN.lt;rw[lp]at this;exact this)).trans (by rw[<-lp ad (q*44)];exact pN.cs 42 _ rfl)⟩;obtain⟨un,Lh⟩:∃un,un=l[q].s.mu:=⟨_,rfl⟩;rw[huv]at HWS;rw[<-Lh]at HWS Jq Et Nt nt;have HU:=X6 (And.intro Et (And.intro Jq (And.intro Nt nt)));have XA:=X6 Lh;have rT:=X6 (JL l adv ks lN hq pW);rw[<-Lh]at rT;clear zD zH hx hc qu pN huv Et Jq Nt nt Lh hq;go_upto_region 6 with(fail);refine wp_region_held_drew (S:=λW=>Ox none A2 ad q l.length adv.length c c2 w.heap.size (.slice Au un.length cu) W/\W.cell? (CA.add j)=(q:Int)/\CA.block<W.heap.size) (by kernel_rfl) ⟨HWS.below (ZN _ _).drew,Mh.out _ H.b.drew⟩ (λhS=>?_);refine GZ 0 ?_;iterate 12
   refine OE (v:=?_) ?_ hS ?_;rotate_left
   ·rintro W' ⟨⟨J1,hla',c0',c1',cu'⟩,ck',kl'⟩;go_simp;rfl
   try simp only[Act.put,X8,YF,YE,YD,YA,YB]
  refine mV 12 (λK hK=>?_);go_simp;refine(DX un adv Au A2 cu c2 _ HU.2.2.1 HT.i64 (XA.out▸HU1.out _ (YJ pW)) HU.1 ((HU.2.1.below (H.b.trans (ZN _ _).drew)).more H.b.size) ((HT.ad.below (H.b.trans (ZN _ _).drew)).more H.b.size)).mono ?_;rintro e w2 ⟨⟨A9,c9,rfl,qp⟩,mH⟩;refine ky hK ⟨hS.1.below mH,(mH.cell (p:=CA.add j) (by rw[lp];exact hS.2.2)).trans hS.2.1,YK hS.2.2 mH.size⟩ λhS=>?_;clear hK;refine GZ 13 ?_;iterate 5
   refine OE (v:=?_) ?_ hS ?_;rotate_left
   ·rintro W' ⟨⟨J1,hla',c0',c1',cu'⟩,ck',kl'⟩;go_simp;rfl
   try simp only[Act.put,X8,YF,YE,YD,YA,YB]
  refine nR ?_;clear hS;obtain⟨L,hL⟩:∃L,L=(ng adv un).1:=⟨_,rfl⟩;have Tg:Hid (NL w w2 u6 u7 (.slice A9 (ng adv un).1.length c9) (lP l adv (ks.take j)).1 (lP l adv (ks.take j)).2.1 #[.slice (some ad) l.length c,.slice A2 adv.length c2,view] (ng adv un).1):=X6 ⟨H.kept ((ZN _ _).drew.trans mH),⟨_,qp⟩,by
   cases hv:(Value.slice A9 (ng adv un).1.length c9).ownBlock with
   | none=>exact .inl rfl
   | some g=>have h1:=(qp.lt g hv).1;refine .inr λe=>?_;have h2:=(H.o4.lt g e.symm).2;simp at h1;omega⟩
  have hLn:=Gr adv un;rw[<-hL]at Tg rT hLn;rw[<-hL];have HLU:=X6 hL;have hL9:L.length<=1048576:=by have:=HU.2.2.2;omega
  clear hL qp mH hLn;go_wp2_with fail;go_loopw [6,7,11] (λv4 v5 iv wx=>∃i:Nat,i<=L.length/\iv= .int .i64 i/\Hid (NL w wx v4 v5 (.slice A9 L.length c9) ((lP l adv (ks.take j)).1++L.take i) ((lP l adv (ks.take j)).2.1++List.replicate i (q:Int)) #[.slice (some ad) l.length c,.slice A2 adv.length c2,view] L)) (λ_ _ iv _=>L.length-(intOf iv).toNat);case atStart=>exact⟨0,by omega,rfl,X6 (by simpa using Tg.out)⟩
  case round=>
   obtain⟨i,hi,rfl,HJ⟩:=hrel;have Vp:IntKind.i64.wrap ((i:Int)+1)=(i:Int)+1:=YG _ ⟨by omega,by omega⟩;by_cases tQ:i<L.length
   ·have g0:decide ((i:Int)<(L.length:Int))=true:=YC (by omega);have J9:decide (i<L.length)=true:=YC tQ;obtain⟨WW,hWW⟩:∃WW,WW=(lP l adv (ks.take j)).1++L.take i:=⟨_,rfl⟩;obtain⟨NN,hNN⟩:∃NN,NN=(lP l adv (ks.take j)).2.1++List.replicate i (q:Int):=⟨_,rfl⟩;rw[<-hWW,<-hNN]at HJ;have HWN:=X6 (And.intro hWW hNN);have oA:WW.length+1<=4294967296:=(by have:=JH l adv (ks.take j);have:=Wo l ks j;have:=HUN.out;rw[hWW,YM,ZW];omega);clear hWW hNN;obtain⟨b9,ho9⟩:=HJ.o9;obtain⟨ad9,rfl,hab9,k0,k1,k2,k3,k4⟩:=(Reads.mo ho9).wd rfl tQ;obtain⟨A4,c4,h4⟩:=lZ HJ.gi.o4;obtain⟨A5,c5,h5⟩:=lZ HJ.gi.o5;subst h4 h5;obtain⟨x,hx⟩:∃x,x=L[i]:=⟨_,rfl⟩;rw[<-hx]at k0 k1 k2 k3 k4;have pV:Hid (L.take (i+1)=L.take i++[x]):=X6 (by rw[hx];exact YU tQ);have mA:Hid (Below wr.heap.size wr wr):=X6 (ZN _ _);have JY:=X6 HJ.gi.o4;have Cu:Hid (w.heap.size+1<=wr.heap.size):=X6 HJ.gi.bx.lt;clear ho9 hab9 hx;go_wp2_with (first
     | (at_builtin;refine lM (m:=1) rfl _ _ rfl AS JY.out Cu.out rfl [.int .i64 x.fr,.int .i64 x.up,.int .i64 x.w,.int .i64 x.gap,.int .i64 x.forced] rfl rfl (by simp[Value.oneCell']) oA (by omega) ?_;intro A6 c6 w6 mF uK oO pa;have HO6:=X6 (And.intro mF (And.intro oO pa));have HO5:=X6 (HJ.o5k mA.out oO);obtain⟨z0,z1⟩:=Mh.out w6 (HJ.gi.b.grown oO HJ.gi.b.size (λg e=>Nat.le_of_succ_le (JY.lt g e).1));clear mF uK oO pa)
     | (at_builtin;refine tN (m:=1) rfl _ _ rfl vv HO5.1 HO5.2 rfl [_] rfl rfl rfl (by simp[Value.oneCell']) oA (by omega) ?_;intro A7 c7 w7 qS VZ xT Eb;have HO7:=X6 (And.intro qS xT);clear qS VZ xT Eb))
    go_roundw;case rel=>exact⟨i+1,by omega,by go_num,X6 (by have h:=HJ.step mA.out (x:=x) HO6.1 HO6.2.1 HO6.2.2 HO7.1 HO7.2;rw[pV.out,<-Yc,<-HWN.1,List.replicate_succ',<-Yc,<-HWN.2];exact h)⟩
    case measure=>simp[intOf];omega
   ·have g0:decide ((i:Int)<(L.length:Int))=false:=X9 (by omega);have J9:decide (i<L.length)=false:=X9 tQ;have HE:Hid (L.take i=L/\i=L.length):=X6 ⟨YY (by omega),by omega⟩;go_wp2_with fail;go_roundw;case rel=>exact⟨j+1,by omega,by go_num,X6 (by have h:=HJ.gi;rw[HE.1,HE.2]at h;rw[rT.out];exact h)⟩
    case measure=>simp[intOf];omega
end
end Go.Proofs.YtjhingednpjogaaGreat
