/- Lemmas for ValidRoom; laid together by a program. -/
import Derived.Test.YtjhingednpjogaaGreatFia
set_option linter.all false
set_option maxRecDepth 100000
set_option maxHeartbeats 4000000
open Go.RowKit
namespace Go.Proofs.YtjhingednpjogaaGreat
open Go.Proofs.Tryz
section
attribute [local go_sem] lp
theorem UK(o:Nat->Int)(i:Nat):∀(p:List Nat) (k:Nat),k<=p.length->(∀q (h:q<p.length),q<k->o p[q]<=o i)->(∀q (h:q<p.length),k<=q->o i<o p[q])->ins o i p=p.take k++i::p.drop k
 | [],k,_,_,_=>by simp[ins]
 | x::t,0,_,_,hi=>by have:=hi 0 (by simp) (X7 _);unfold ins;rw[YP (by simpa using this)];rfl
 | x::t,k+1,hk,lo,hi=>by have h0:=lo 0 (by simp) (by omega);unfold ins;rw[YO (by simp at h0;omega),UK o i t k (by simpa using hk) (λq h hq=>by have:=lo (q+1) (by rw[ZA];omega) (by omega);rwa[YB]at this) (λq h hq=>by have:=hi (q+1) (by rw[ZA];omega) (by omega);rwa[YB]at this)];rfl
theorem T2{w:World}{base:Nat}{e:TypeId}{n c:Nat}{A:Option Addr}{xs:List Value}(h:w.ownsRow base e 1 (.slice A n c) n xs)(h0:0<n):∃g,A=some ⟨g,0,none⟩:=by obtain⟨g,c',e2,_⟩:=h.form h0;injection e2 with e2;exact⟨g,e2⟩
theorem Ut{w:World}{base g:Nat}{e:TypeId}{n c j:Nat}{xs:List Value}{u:Value}(h:w.ownsRow base e 1 (.slice g n c) n xs)(hx:xs[j]? =some u):w.cell? (g,j)=some u:=by
 have h3:=(@World.ownsRow.cells _ _ _ _ _ _ _ h) (g:=g) rfl j u hx;have ha:(⟨g,0,none⟩:Addr).add j=⟨g,j,none⟩:=by unfold Addr.add;split<;>simp_all
 rw[ha]at h3;exact h3
theorem Reads.ord{w:World}{B n k:Nat}{A:Option Addr}{l:List me}(h:Reads w B 43 A n (nh l))(hn:n=l.length)(hk:k<l.length): ∃ad:Addr,A=some ad/\ad.block<B/\w.cell? (ad.block,(ad.add (k*43)).off+37)=some (.int .i64 (pT l k)):=by obtain⟨ad,e,s⟩:=h.st hn hk;have h1:=s.cs 36 _ (QG l[k]);rw[lp]at h1;obtain⟨FT,e2,hb,_⟩:=h.2 (by omega);rw[e]at e2;injection e2 with e2;subst e2;exact⟨ad,e,hb,by rw[aao l hk];exact h1⟩
theorem Ob(l:List me)(A:Option Addr)(ck:Nat)(w:World)(hn:l.length<=1000)(hr:Reads w w.heap.size 43 A l.length (nh l)): Calls prog 137 #[.slice A l.length ck] w λe w'=>(∃v,e= .returned v/\w'.ownsRow w.heap.size 3 1 v l.length (nM (nc (pT l) l.length)))/\Below w.heap.size w w':=by
 have HR:=X6 hr;clear hr;obtain⟨n,mI⟩:∃n,n=l.length:=⟨_,rfl⟩;rw[<-mI]at HR hn⊢;have HN:=X6 mI;clear mI;go_enter func137,ntmps137;go_wp2_with fail;go_loopw [3,4] (λv kv wr=>∃i:Nat,i<=n/\kv= .int .i64 i/\Hid (wr.ownsRow w.heap.size 3 1 v i (nM (nc (pT l) i))/\Below w.heap.size w wr)) (λ_ kv _=>n-(intOf kv).toNat);case atStart=>exact⟨0,by omega,rfl,X6 ⟨YV _ _ _ _,ZN _ _⟩⟩
 case round=>
  obtain⟨i,hi,rfl,H⟩:=hrel;obtain⟨A3,c3,hv3⟩:=lZ H.1;subst hv3;by_cases lN:i<n;rotate_left
  ·have g0:decide ((i:Int)<(n:Int))=false:=X9 (by omega);have J9:decide (i<n)=false:=X9 lN;have SM:i=n:=(by omega);rw[SM]at H⊢;clear SM lN J9;have J9:decide (n<n)=false:=X9 (by omega);go_wp2_with fail;go_ret;exact⟨⟨_,rfl,H.1⟩,H.2⟩
  have g0:decide ((i:Int)<(n:Int))=true:=YC (by omega);have J9:decide (i<n)=true:=YC lN;have Fe:(i:Int)<(n:Int):=by omega
  have zD:(0:Int)<=(i:Int):=by omega
  have wk:IntKind.i64.wrap ((i:Int)+1)=(i:Int)+1:=YG _ ⟨by omega,by omega⟩;have tQ:i<l.length:=by rw[<-HN.out];exact lN
  obtain⟨p,hp⟩:∃p,p=nc (pT l) i:=⟨_,rfl⟩;have HP:Hid (nc (pT l) (i+1)=ins (pT l) i p/\p.length=i/\(∀x∈p,x<i)/\p.Pairwise (lexLt (pT l))):=X6 (by rw[hp];exact⟨tT _ _,vI _ _,λx hx=>(tD _ _ _).1 hx,Ef _ _⟩);rw[<-hp]at H;clear hp;go_wp2_with (at_builtin;refine lM (m:=1) rfl _ _ rfl vv H.1 H.2.size rfl [.int .i64 (i:Int)] rfl rfl (by simp[Value.oneCell']) (by omega) (by omega) ?_;intro A8 c8 w8 tJ PU Zz _;have H8:=X6 (And.intro tJ (PU _ _ (X7 _) H.2));clear tJ PU Zz);obtain⟨g8,hA8⟩:=T2 H8.1 (by omega);subst hA8;have HJ:Hid (∃x,w8.ownsRow w.heap.size 3 1 (.slice g8 (i+1) c8) (i+1) (nM (p.take i++x::p.drop i))):=X6 ⟨i,by have h:=H8.1;rw[YY (by rw[HP.2.1];exact X7 _),List.drop_of_length_le (by rw[HP.2.1];exact X7 _)];rw[show [Value.int .i64 (i:Int)]=nM [i]from rfl]at h;simpa[nM]using h⟩;go_loopw [5] (λkv wr=>∃k:Nat,k<=i/\kv= .int .i64 k/\Hid ((∃x,wr.ownsRow w.heap.size 3 1 (.slice g8 (i+1) c8) (i+1) (nM (p.take k++x::p.drop k)))/\(∀q (h:q<p.length),k<=q->pT l i<pT l p[q])/\Below w.heap.size w wr)) (λkv _=>(intOf kv).toNat);case atStart=>exact⟨i,X7 _,rfl,X6 ⟨HJ.out,λq h hq=>by have:=HP.2.1;omega,H8.2⟩⟩
  case round=>
   obtain⟨k,hk,rfl,HK⟩:=hrel;clear HJ H8;obtain⟨x,HO⟩:=HK.1;have HX:=X6 HO;clear HO;obtain⟨ad,hA,qu,XB⟩:=(HR.below HK.2.2).ord HN.out tQ;subst hA;have fz:=HX.frozenAt k;have cx:wr.cell? (g8,k)=(x:Int):=Ut HX.out (by have:=HP.2.1;unfold nM;rw[ZJ,Y6,YQ (by simp;omega)];simp[show k-min k p.length=0 by omega]);have LEAVE:Hid (∀W,(W.ownsRow w.heap.size 3 1 (.slice g8 (i+1) c8) (i+1) (nM (p.take k++x::p.drop k)))->Below w.heap.size w W->(k=0\/∀h:k-1<p.length,pT l p[k-1]<=pT l i)->
     (W.setCell (g8,k) (.int .i64 (i:Int))).ownsRow w.heap.size 3 1 (.slice g8 (i+1) c8) (i+1) (nM (nc (pT l) (i+1)))/\Below w.heap.size w (W.setCell (g8,k) (.int .i64 (i:Int)))):=X6 (λW ho hb Fg=>by
    have Ye:=HP.2.1
    have SM:=UK (pT l) i p k (by omega) (λq h hq=>by
     rcases Fg with h0 | h0
     ·omega
     ·have h1:=h0 (by omega)
      by_cases e:q=k-1
      ·subst e;exact h1
      ·exact aDA ((List.pairwise_iff_getElem.1 HP.2.2.2) q (k-1) h (by omega) (by omega)).le h1) HK.2.1
    have h:=(ho.stored k (.int .i64 (i:Int))).1
    refine⟨?_,hb.setCell (p:=(g8,k)) (by
     have:=ho.lt g8 rfl;exact this.1) _⟩
    rw[HP.1,SM]
    have e2:(nM (p.take k++x::p.drop k)).set k (.int .i64 (i:Int))=nM (p.take k++i::p.drop k):=by
     unfold nM
     rw[ZJ,Y6,aAI _ _ (by simp;omega)]
     simp[show k-min k p.length=0 by omega]
    rw[e2]at h
    exact h)
   rcases aAN k with Zj | Zj
   ·have gk:decide ((0:Int)<(k:Int))=false:=X9 (by omega);have gk':decide (0<k)=false:=X9 (by omega);have HZ:=X6 Zj;clear Zj;go_upto_region 7 with(fail)
    go_quiet (fail);go_wp2_with fail;go_roundw;case rel=>exact⟨i+1,by omega,by go_num,X6 (LEAVE.out (wr.drewN _) HX.out (oV HK.2.2 _) (.inl HZ.out))⟩
    case measure=>simp[intOf]<;>omega
   ·have gk:decide ((0:Int)<(k:Int))=true:=YC (by omega);have gk':decide (0<k)=true:=YC (by omega);obtain⟨j,rfl⟩:∃j,k=j+1:=⟨k-1,by omega⟩;clear Zj;have wj:IntKind.i64.wrap (((j+1:Nat):Int)-1)=(j:Int):=(by rw[show((j+1:Nat):Int)-1=(j:Int) by omega];exact YG _ ⟨by omega,by omega⟩);have hjp:j<p.length:=(by have:=HP.2.1;omega);obtain⟨y,hy⟩:∃y,y=p[j]:=⟨_,rfl⟩;have hyi:y<i:=(by rw[hy];exact HP.2.2.1 _ (YJ hjp));have cj:wr.cell? (g8,j)=(y:Int):=Ut HX.out (by unfold nM;rw[ZJ,YN (by simp;omega),aAT,aBL,YP (by omega),YH hjp,<-hy];rfl);have HY:=X6 hy;clear hy;obtain⟨FT,sP,hab2,Ya⟩:=(HR.below HK.2.2).ord HN.out (show y<l.length by have:=HN.out;omega);obtain rfl:ad=FT:=(by injection sP);clear sP;have hyn:(y:Int)<(n:Int):=(by omega);have hy0:(0:Int)<=(y:Int):=(by omega);have hj0:(0:Int)<=(j:Int):=(by omega);have Cq:(j:Int)<((i:Int)+1):=(by omega);by_cases Sj:pT l i<pT l y
    ·have gc:decide (pT l i<pT l y)=true:=YC Sj;have HCM:=X6 Sj;clear Sj;go_upto_region 7 with(fail)
     go_quiet (fail);go_wp2_with fail;go_roundw;case rel=>
      refine⟨j,by omega,rfl,X6 ⟨⟨y,?_⟩,λq h hq=>?_,?_⟩⟩
      ·have h:=(World.ownsRow.stored (w:=wr.drewN nq) HX.out (j+1) (.int .i64 (y:Int))).1;have e1:p.take (j+1)=p.take j++[y]:=(by rw[YU hjp,<-HY.out]);have e2:p.drop j=y::p.drop (j+1):=(by rw[ZH hjp,<-HY.out]);have e3:(nM (p.take (j+1)++x::p.drop (j+1))).set (j+1) (.int .i64 (y:Int))=nM (p.take j++y::p.drop j):=(by rw[e1,e2];unfold nM;rw[ZJ,Y6,aAI _ _ (by simp;omega)];simp[show j+1-(min j p.length+1)=0 by omega]);rw[e3]at h;exact h
      ·by_cases e:q=j
       ·subst e;rw[<-HY.out];exact HCM.out
       ·exact HK.2.1 q h (by omega)
      ·exact(oV HK.2.2 _).setCell (p:=(g8,j+1)) (HX.lt g8 rfl).1 _
     case measure=>simp[intOf]<;>omega
    ·have gc:decide (pT l i<pT l y)=false:=X9 Sj;have HCM:=X6 Sj;clear Sj;go_upto_region 7 with(fail)
     go_quiet (fail);go_wp2_with fail;go_roundw;case rel=>exact⟨i+1,by omega,by go_num,X6 (LEAVE.out (wr.drewN _) HX.out (oV HK.2.2 _) (.inr λh=>by have:=HCM.out;rw[HY.out]at this;simp at this⊢;omega))⟩
     case measure=>simp[intOf]<;>omega
end
section
attribute [local go_sem] lp
structure RrI(B n:Nat)(rows:List (List Nat))(vs:List Value)(v:Value)(w wr:World):Prop where
 r:r8 rows B vs v wr
 b:Below B w wr
 lo:B<=wr.heap.size
section
variable{B n:Nat}{rows Ba:List (List Nat)}{vs vs':List Value}{v v':Value}{w wr w':World}
theorem RrI.drewN(h:RrI B n rows vs v w wr)(k:Nat):RrI B n rows vs v w (wr.drewN k):=⟨h.r.kept (oV (ZN _ _) k),oV h.b k,h.lo⟩
end
theorem He(s:me)(c:Int)(l:List me)(got:List Cn)(A Ag:Option Addr)(ck cg:Nat)(w:World)(hn:l.length<=1000)(hr:Reads w w.heap.size 43 A l.length (nh l))(huv:∀s∈l,∃Au nu cu,s.uv= .slice Au nu cu) (hg:Reads w w.heap.size 4 Ag got.length (ly got)) (hc:CB c) (hs:∀s∈l,UA s) (BR:∀x∈got,0<=x.lC/\x.lC<=1099511627776): Calls prog 79 #[.agg (lj s).toArray,.int .i64 c,.slice A l.length ck,.slice Ag got.length cg] w λe w'=>RowsAns s c l (xr l c got) w w' e:=by
 have Cr:=X6 (λW (hb:Below w.heap.size w W)=>Dz c l got A Ag ck cg W hn ((hr.below hb).more hb.size) huv ((hg.below hb).more hb.size) hc hs BR);have U7:=X6 (λW (hb:Below w.heap.size w W)=>Ob l A ck W hn ((hr.below hb).more hb.size));have HMB:=X6 (λk (hk:k<l.length)=>P2 hs hc BR k hk);have HCB0:=X6 hc;clear hr hg huv hs BR;obtain⟨n,mI⟩:∃n,n=l.length:=⟨_,rfl⟩;rw[<-mI]at Cr U7 HMB hn⊢;have HN:=X6 mI;clear mI;obtain⟨m,Dd⟩:∃m,m=got.length:=⟨_,rfl⟩;rw[<-Dd]at Cr⊢;clear Dd;obtain⟨M,hM⟩:∃M,M=xr l c got:=⟨_,rfl⟩;rw[<-hM]at Cr HMB⊢;clear hM;obtain⟨ks,qA⟩:∃ks,ks=nc (pT l) n:=⟨_,rfl⟩;rw[<-qA]at U7;have JJ:=X6 qA;have Hb:Hid (ks.length=n/\∀k∈ks,k<n):=X6 ⟨by rw[qA,vI],λk hk=>by rw[qA]at hk;exact(tD _ _ _).1 hk⟩;clear qA;have vk:=hc.b;clear hc;go_enter func79,ntmps79;go_upto_region 1 with(fail)
 have H1:Hid (Below w.heap.size w (w.alloc (.cells (lj s).toArray 63))/\lq (w.alloc (.cells (lj s).toArray 63)) w.heap.size 63 (lj s).toArray):=X6 ⟨UH (ZN _ _) _,lq.new _ _ _⟩;obtain⟨gs,rL⟩:∃gs,gs=w.heap.size:=⟨_,rfl⟩;obtain⟨w1,mW⟩:∃w1,w1=w.alloc (.cells (lj s).toArray 63):=⟨_,rfl⟩;have HE:Hid (w.alloc (.cells (lj s).toArray 63)=w1):=X6 mW.symm;rw[<-mW,<-rL]at H1;rw[<-rL];first | rw[HE.out] | (rw[show(w.alloc _)=w1 from HE.out])
 have T9:=X6 rL;clear mW HE rL;rw[<-T9.out]at Cr U7;have Cu:Hid (gs<=w1.heap.size):=X6 (by rw[T9.out];exact H1.1.size);go_upto_region 2 with(go_at_call 136;refine(Cr.out w1 H1.1).mono ?_;rintro e w2 ⟨⟨v1,rfl,lV⟩,mr⟩;obtain⟨Ai,ci,TF⟩:=lZ lV;subst TF;have H2:=X6 (And.intro (Reads.mo lV) (show Below w1.heap.size w1 w2 from mr));clear lV mr)
 go_upto_region 3 with(go_at_call 137;refine(U7.out w2 (H1.1.trans (H2.2.mono Cu.out))).mono ?_;rintro e w3 ⟨⟨v2,rfl,lV⟩,pn⟩;obtain⟨Ao,co,E4⟩:=lZ lV;subst E4;have H3:=X6 (And.intro (Reads.mo lV) (show Below w2.heap.size w2 w3 from pn));clear lV pn);have H4:Hid (lq w3 gs 63 (lj s).toArray/\Reads w3 w3.heap.size 51 Ai n (Bo M n)/\Reads w3 w3.heap.size 1 Ao n (nM ks)/\Below gs w w3/\gs<w3.heap.size):=X6 (by have b3:Below w1.heap.size w1 w3:=H2.2.trans (H3.2.mono H2.2.size);have Xi:=H1.2.below b3 H1.2.lt;exact⟨Xi,(H2.1.below H3.2).more H3.2.size,H3.1,H1.1.trans (b3.mono Cu.out),Xi.lt⟩);clear H1 H2 H3 Cr U7;go_wp2_with fail;obtain⟨B0,hB0⟩:∃B0,B0=w3.heap.size:=⟨_,rfl⟩;have vp:Hid (RrI B0 n [] [] (.slice none 0 0) w3 w3):=X6 ⟨r8.start _ _,ZN _ _,by omega⟩;rw[<-hB0]at H4;have vS:=X6 hB0;clear hB0;go_loopw [11,12,13] (λv sv kv wr=>∃(i:Nat) (rows:List (List Nat)) (long:Int) (vs:List Value),i<=n/\sv= .int .i64 long/\kv= .int .i64 i/\Hid ((rows,long)=(ks.take i).foldl (qG s.wrap c (pY M)) ([],0))/\Hid (O7 rows long i)/\Hid (RrI B0 n rows vs v w3 wr)) (λ_ _ kv _=>n-(intOf kv).toNat);case atStart=>exact⟨0,[],0,[],by omega,rfl,rfl,X6 rfl,X6 ⟨X7 _,λp=>by simp[rowAt],by omega⟩,vp⟩
 case round=>
  obtain⟨i,rows,long,vs,hi,rfl,rfl,rT,Dc,xV⟩:=hrel;obtain⟨Av,cv,hv⟩:=lZ xV.r.v;subst hv;have hvl:vs.length<=i:=by rw[xV.r.len];exact Dc.n
  have hlb:=Dc.l;by_cases lN:i<n;rotate_left
  ·have g0:decide ((i:Int)<(n:Int))=false:=X9 (by omega);have J9:decide (i<n)=false:=X9 lN;have pz:i=n:=(by omega);have HF:Hid (sw s.wrap c (pY M) (nc (pT l) n)=rows):=X6 (by have h:=rT.out;rw[pz,YY (by rw[Hb.1];exact X7 _),JJ.out]at h;unfold sw;rw[<-h]);clear pz lN;go_wp2_with fail;go_ret;rw[HN.out]at HF;have Xm:gs<=B0:=(by have:=H4.2.2.2.2;omega);refine⟨⟨_,rfl,?_⟩,by rw[<-T9.out];exact H4.2.2.2.1.trans (xV.b.mono Xm)⟩;rw[HF.out,<-T9.out];exact xV.r.fin Xm
  have g0:decide ((i:Int)<(n:Int))=true:=YC (by omega);have J9:decide (i<n)=true:=YC lN;have Fe:(i:Int)<(n:Int):=by omega
  have zD:(0:Int)<=(i:Int):=by omega
  have wk:IntKind.i64.wrap ((i:Int)+1)=(i:Int)+1:=YG _ ⟨by omega,by omega⟩;have nF:i<ks.length:=by rw[Hb.1];exact lN
  obtain⟨kk,O0⟩:∃kk,kk=ks[i]:=⟨_,rfl⟩;have pz:kk<n:=by rw[O0];exact Hb.2 _ (YJ nF)
  have vO:Hid (Below B0 w3 wr):=X6 xV.b;obtain⟨ao,uo,rfl,hao,hxo,XK⟩:=(H4.2.2.1.below vO.out).at_ lN;have huo:uo= .int .i64 (kk:Int):=by rw[O0];simpa[nM,nF]using hxo.symm
  subst huo;have HKK:=X6 O0;clear O0 hxo;obtain⟨ai,rfl,x45,x47⟩:=(H4.2.1.below vO.out).ri pz;have hib:=HMB.out kk pz;obtain⟨sd,hsd⟩:∃sd,sd=(M kk).mY:=⟨_,rfl⟩;obtain⟨gu,rW⟩:∃gu,gu=(M kk).guess:=⟨_,rfl⟩;have hs1:=hib.mY;have Me:=hib.guess;rw[<-hsd]at hs1 x45;rw[<-rW]at Me x47;have KB:Hid (pY M kk=gu+sd):=X6 (by rw[hsd,rW];unfold pY;omega);clear hib hsd rW;have hkn2:(kk:Int)<(n:Int):=by omega
  have hkn3:(0:Int)<=(kk:Int):=by omega
  have w6:IntKind.i64.wrap (long+gu)=long+gu:=YG _ ⟨by omega,by omega⟩;have w7:IntKind.i64.wrap (long+gu+sd)=long+gu+sd:=YG _ ⟨by omega,by omega⟩;have w8:IntKind.i64.wrap (gu+sd)=gu+sd:=YG _ ⟨by omega,by omega⟩;go_upto_region 9 with(fail)
  go_quiet (fail);obtain⟨wc,hwc⟩:∃wc,wc=wr.drewN nq:=⟨_,rfl⟩;have Qm:Hid (RrI B0 n rows vs (.slice Av vs.length cv) w3 wc):=X6 (by rw[hwc];exact xV.drewN _);rw[<-hwc];clear hwc XK x45 x47 vO;obtain⟨L2,hL2⟩:∃L2,L2=long+gu+sd:=⟨_,rfl⟩;have Ve:Hid (L2=long+pY M kk):=X6 (by rw[hL2,KB.out];omega);rw[<-hL2];obtain⟨own,lV⟩:∃own,own=gu+sd:=⟨_,rfl⟩;have hl2b: -6000000000000000000<=L2/\L2<=6000000000000000000:=by omega
  rw[<-lV]at w8 KB;clear w6 w7 hL2 lV hs1 Me hlb;have HEM:Hid (rows.length=0↔i=0):=X6 (by
   have ES:=xp s.wrap c (pY M) (ks.take i);rw[<-rT.out]at ES;constructor
   ·intro h;have h1:=ES.none (aAO.1 h);have h2:=aCV List.length h1;rw[ZW,aBD]at h2;omega
   ·intro h;have h1:=ES.flat;rw[h]at h1;have h2:rows.flatten=[]:=(by simpa using h1);have h3:=zt ES.ne;have h4:rows.length<=rows.flatten.length:=h3;rw[h2]at h4;simpa using h4)
  go_upto_region 10 with(fail);go_cut [54] (λsx wx=>sx= .bool (vf rows s.wrap c L2)/\wc=wx);case first=>
   have cw:wc.cell? (gs,34)=s.wrap:=(H4.1.below Qm.b H4.2.2.2.2).get 34 rfl;by_cases h0:i=0
   ·have e0:((i:Int) == 0)=true:=ZR.2 (by omega);have HC:Hid (vf rows s.wrap c L2=true):=X6 (by unfold vf;simp[HEM.2 h0]);clear h0;go_wp2_with fail;go_meet;exact⟨by rw[HC.out],rfl⟩
   ·have e0:((i:Int) == 0)=false:=ZO.2 (by omega);have vU:¬rows.length=0:=λh=>h0 (HEM.1 h);have R5:=X6 vU;clear h0 vU;cases hwr:s.wrap
    ·rw[hwr]at cw;have HWR:=X6 hwr;have HC:Hid (vf rows false c L2=false):=X6 (by unfold vf;simp[R5.out]);clear hwr;go_wp2_with fail;go_meet;exact⟨by rw[HWR.out,HC.out],rfl⟩
    ·rw[hwr]at cw;have HWR:=X6 hwr;clear hwr;cases oR:decide (c<L2)
     ·have HC:Hid (vf rows true c L2=false):=X6 (by unfold vf;simp[R5.out,oR]);go_wp2_with fail;go_meet;exact⟨by rw[HWR.out,HC.out],rfl⟩
     ·have HC:Hid (vf rows true c L2=true):=X6 (by unfold vf;simp[R5.out,oR]);go_wp2_with fail;go_meet;exact⟨by rw[HWR.out,HC.out],rfl⟩
  case rest=>
   obtain⟨rfl,rfl⟩:=hcut;obtain⟨cb,vk⟩:∃cb,cb=vf rows s.wrap c L2:=⟨_,rfl⟩;rw[<-vk];have JT:=X6 vk;clear vk xV;go_upto_if 54 with(fail);go_cut [11,12] (λs11 s12 wx=>∃(sA:List (List Nat)) (Dg:Int) (WG:List Value),s12= .int .i64 Dg/\Hid (sA=(if cb then rows++[[]]else rows)/\Dg=if cb then own else L2)/\Hid (RrI B0 n sA WG s11 w3 wx));case first=>
    cases cb
    ·go_wp2_with fail;go_meet;exact⟨rows,L2,vs,rfl,X6 ⟨rfl,rfl⟩,Qm⟩
    ·have h9:vs.length+1<=4294967296:=(by omega);go_upto_region 12 with(at_builtin;refine lM (m:=1) rfl _ _ rfl el_row Qm.r.v Qm.lo rfl [.slice none 0 0] rfl rfl (by simp[Value.oneCell']) h9 (by omega) ?_;intro A1 c1 sy tj BM DW _;have HR10:Hid (RrI B0 n (rows++[[]]) (vs++[.slice none 0 0]) (.slice A1 (vs.length+1) c1) w3 sy):=X6 ⟨Qm.r.push tj DW,BM _ _ (X7 _) Qm.b,YL Qm.lo DW.size⟩;clear tj BM DW)
     obtain⟨ai2,e2,x45,x47⟩:=(H4.2.1.below HR10.b).ri pz;obtain rfl:ai=ai2:=(by injection e2);clear e2;have HOS:=X6 (show(M kk).guess+(M kk).mY=own by rw[<-KB.out];unfold pY;omega);obtain⟨sd2,hsd2⟩:∃sd,sd=(M kk).mY:=⟨_,rfl⟩;obtain⟨gu2,hgu2⟩:∃gu,gu=(M kk).guess:=⟨_,rfl⟩;rw[<-hsd2]at x45 HOS;rw[<-hgu2]at x47 HOS;have w9:IntKind.i64.wrap (gu2+sd2)=own:=(by rw[HOS.out];exact YG _ (by have:=HMB.out kk pz;have h1:=this.mY;have h2:=this.guess;have h3:=HOS.out;constructor<;>omega));clear hsd2 hgu2 HOS;go_quiet (fail);go_wp2_with fail;go_meet;exact⟨_,own,_,rfl,X6 ⟨rfl,rfl⟩,X6 (HR10.drewN _)⟩
   case rest=>
    obtain⟨sA,Dg,WG,rfl,HX,HR⟩:=hcut;obtain⟨wd,rfl⟩:∃wd,wd=wc:=⟨_,rfl⟩;have KJ:0<WG.length:=by
     rw[HR.r.len,HX.1];cases cb
     ·have:=JT.out;unfold vf at this;have h0:decide (rows.length=0)=false:=by
       cases h:decide (rows.length=0)
       ·rfl
       ·rw[h]at this;simp at this
      have:=YS h0;simp only[Y9,BT];omega
     ·simp
    obtain⟨q,hq⟩:∃q,WG.length=q+1:=⟨WG.length-1,by omega⟩;obtain⟨gv,cv1,hv,hgv,_⟩:=HR.r.v.form KJ;subst hv;have Tc:q<WG.length:=(by omega);obtain⟨Ar,cr,hvr⟩:=lZ (HR.r.own q Tc);have TP:=HR.r.own q Tc;have UQ:=HR.r.v.cellAt q (by omega);rw[YH Tc,hvr]at UQ;have tf:(rowAt sA q).length<=i:=by
     rw[HX.1];have hr:=Dc.r q;cases cb
     ·simp only[Y9,BT];exact hr
     ·simp only[Z4];unfold rowAt at hr⊢;by_cases hp:q<rows.length
      ·rw[YN hp];exact hr
      ·rw[YQ (by omega)];cases hq:q-rows.length with
       | zero=>simp
       | succ q=>simp
    have h9:(rowAt sA q).length+1<=4294967296:=(by omega);rw[hq];have pW:q<4294967296:=(by have:=HR.r.len;have:=Dc.n;have:=HX.1;cases cb<;>simp_all<;>omega);have wq:IntKind.i64.wrap ((q:Int)+1-1)=(q:Int):=(by rw[YG _ ⟨by omega,by omega⟩];omega);have hq0:(0:Int)<=(q:Int):=(by omega);have hq1:(q:Int)<(q:Int)+1:=(by omega);have hvk:∀{DI:World},wd.grownBy DI WG[q].ownBlock->DI.cell? (gv,q)=some (.slice Ar (rowAt sA q).length cr)/\DI.frozen? (gv,q)=false:=fun {DI} hg=>(by have h13:=HR.r.v.kept hg (uj HR.r.v (HR.r.own q Tc) (by decide));refine⟨?_,h13.frozenAt q⟩;rw[h13.cellAt q (by omega),YH Tc,hvr]);have Fg:∀{DI:World} {nv:Value},wd.grownBy DI WG[q].ownBlock->DI.ownsRow B0 3 1 nv ((rowAt sA q).length+1) (nM (rowAt sA q)++[.int .i64 (kk:Int)])->(nv.ownBlock=WG[q].ownBlock\/wd.heap.size<=(nv.ownBlock).getD wd.heap.size)->Below B0 w3 DI->
      RrI B0 n (sA.set q (rowAt sA q++[kk])) (WG.set q nv) (.slice gv WG.length cv1) w3 (DI.setCell (gv,q) nv):=fun {DI nv} hg ho hb uE=>
     ⟨HR.r.add Tc ho hg hb rfl,uE.setCell (p:=(gv,q)) (HR.r.v.lt gv rfl).1 _,by have:=HR.lo;have:=hg.size;simp only[World.setCell]at*;simp;omega⟩
    have hrs:(sA.set q (rowAt sA q++[kk]),Dg)=qG s.wrap c (pY M) (rows,long) kk:=by
     have hl:=HR.r.len;have vk:=JT.out;rw[HX.1]at hl⊢;rw[HX.2];unfold qG;have e2:(long+pY M kk)=L2:=(by rw[Ve.out]);simp only[e2];cases cb
     ·have Xx:¬(rows.length=0\/s.wrap=true/\c<L2):=λh=>by
       unfold vf at vk;rcases h with h | ⟨h1,h2⟩
       ·rw[YC h]at vk;simp at vk
       ·rw[h1,YC h2]at vk;simp at vk
      rw[YO Xx];simp only[Y9,BT]at hl⊢;have hp:0<rows.length:=(by omega);have yi:q=rows.length-1:=(by omega);rw[yi,Vw rows kk hp]
     ·have Xx:rows.length=0\/s.wrap=true/\c<L2:=by
       unfold vf at vk;by_cases h:rows.length=0
       ·exact .inl h
       ·rw[X9 h]at vk;have:=vk.symm;simp only[Bool.false_or,Z3,ZU]at this;exact .inr this
      rw[YP Xx];simp only[Z4]at hl⊢;have yi:q=rows.length:=(by simp at hl;omega);rw[yi,V5,show pY M kk=own by rw[KB.out]]
    rw[hvr]at hvk Fg TP;have yT:=X6 TP;have HVK:=X6 (λ(DI:World)=> @hvk DI);have HSTP:=X6 (λ(DI:World) (nv:Value)=> @Fg DI nv);have HRS:=X6 hrs;have HQ:=X6 hq;rw[hq]at HSTP;clear TP hvr hq hgv hvk Fg hrs hl2b;go_upto_region 7 with(at_builtin;refine lM (m:=1) rfl _ _ rfl vv yT.out HR.lo rfl [.int .i64 (kk:Int)] rfl rfl (by simp[Value.oneCell']) h9 (by omega) ?_;intro A3 c3 DI Di U1 R4 hob13;have HF:=X6 (HSTP.out DI _ R4 Di hob13 (U1 _ _ (X7 _) HR.b));have p1:=(HVK.out DI R4).1;have p2:=(HVK.out DI R4).2;clear Di U1 R4 hob13)
    have QS:Hid ((sA.set q (rowAt sA q++[kk]),Dg)=(ks.take (i+1)).foldl (qG s.wrap c (pY M)) ([],0)/\O7 (sA.set q (rowAt sA q++[kk])) Dg (i+1)):=X6 (by have e:ks.take (i+1)=ks.take i++[kk]:=(by rw[YU nF,<-HKK.out]);refine⟨by rw[e,aB9,<-rT.out];exact HRS.out,?_⟩;have hb:=M1 (wrap:=s.wrap) (c:=c) (f:=pY M) (kk:=kk) Dc.out (by have:=(HMB.out kk pz).mY;have:=(HMB.out kk pz).guess;unfold pY;omega);rw[<-HRS.out]at hb;exact hb);clear p1 p2 UQ;go_wp2_with fail;go_roundw;case rel=>exact⟨i+1,_,Dg,_,by omega,rfl,by go_num,QS.1 |> X6,X6 QS.2,HF⟩
    case measure=>simp[intOf]<;>omega
end
end Go.Proofs.YtjhingednpjogaaGreat
