/- Lemmas for ValidRoom; laid together by a program. -/
import Derived.Test.YtjhingednpjogaaGreatWfp
import Derived.Test.YtjhingednpjogaaGreatFia
set_option linter.all false
set_option maxRecDepth 100000
set_option maxHeartbeats 4000000
namespace Go.Proofs.YtjhingednpjogaaGreat
open Go.Proofs.Tryz
open Go.RowKit
attribute [local go_sem] lp
theorem Cc(a b c:Int)(w:World):Calls prog 168 #[.agg #[a,b,c]] w (oD (ou (a,b,c)) w):=by
 have HU:Hid (ou (a,b,c)= .tuple #[.agg #[(lU a),(lU b),(lU c)],.bool (mG a || mG b || mG c)]):=X6 rfl;rw[HU.out];have HC:=X6 (λx W=>qP x W);obtain⟨x1,Am⟩:∃x,x=lU a:=⟨_,rfl⟩;obtain⟨x2,wC⟩:∃x,x=lU b:=⟨_,rfl⟩;obtain⟨x3,GK⟩:∃x,x=lU c:=⟨_,rfl⟩;obtain⟨y1,Qw⟩:∃x,x=mG a:=⟨_,rfl⟩;obtain⟨y2,JQ⟩:∃x,x=mG b:=⟨_,rfl⟩;obtain⟨y3,hy3⟩:∃x,x=mG c:=⟨_,rfl⟩;rw[<-Am,<-wC,<-GK,<-Qw,<-JQ,<-hy3];have XO:Hid (∀W,Calls prog 76 #[a] W λe w'=>e= .returned (.tuple #[x1,y1])/\W=w'):=X6 (λW=>by rw[Am,Qw];exact HC.out a W);have HE2:Hid (∀W,Calls prog 76 #[b] W λe w'=>e= .returned (.tuple #[x2,y2])/\W=w'):=X6 (λW=>by rw[wC,JQ];exact HC.out b W);have HE3:Hid (∀W,Calls prog 76 #[c] W λe w'=>e= .returned (.tuple #[x3,y3])/\W=w'):=X6 (λW=>by rw[GK,hy3];exact HC.out c W);clear Am wC GK Qw JQ hy3 HU HC;go_enter func168,ntmps168;go_upto_region 2 with(go_at_call 76;refine(XO.out _).mono ?_;rintro e w' ⟨rfl,rfl⟩)
 go_upto_region 3 with(go_at_call 76;refine(HE2.out _).mono ?_;rintro e w' ⟨rfl,rfl⟩);go_upto_region 4 with(go_at_call 76;refine(HE3.out _).mono ?_;rintro e w' ⟨rfl,rfl⟩);clear XO HE2 HE3;cases y1
 ·cases y2
  ·skip
   go_wp2_with fail;refine ZQ (oJ rfl _ _ (w.heap.size+1) x1 x2 x3 _ rfl rfl (lq.at_ _ _ _ (by simp))) rfl ⟨rfl,qx (qx (ZN _ _) _) _⟩
  ·skip
   go_wp2_with fail;refine ZQ (oJ rfl _ _ (w.heap.size+1) x1 x2 x3 _ rfl rfl (lq.at_ _ _ _ (by simp))) rfl ⟨rfl,qx (qx (ZN _ _) _) _⟩
 ·skip
  go_wp2_with fail;refine ZQ (oJ rfl _ _ (w.heap.size+1) x1 x2 x3 _ rfl rfl (lq.at_ _ _ _ (by simp))) rfl ⟨by cases y2<;>rfl,qx (qx (ZN _ _) _) _⟩
theorem Mx(R T M:Int)(hT:R.tdiv 2=T)(hM:R.tmod 2=M):(-20<=M/\M<=20/\(0<=R->0<=T/\T<=R)/\(R<0->R<=T/\T<=0))/\(M<0->T-1=R / 2)/\(¬M<0->T=R / 2):=by
 rcases Int.lt_or_le R 0 with h | h
 ·obtain⟨a,rfl⟩:∃a,R= -a:=⟨-R,by omega⟩;rw[Int.neg_tdiv,aAV (by omega)]at hT;rw[Int.neg_tmod,aAU (by omega)]at hM;omega
 ·rw[aAV h]at hT;rw[aAU h]at hM;omega
theorem D8(a:Int)(w:World)(ha: -110000000000000000<=a/\a<=110000000000000000): Calls prog 140 #[.int .i64 a,.int .i64 2] w λe w'=>e= .returned (.int .i64 (a / 2))/\w=w':=by
 obtain⟨T,hT⟩:∃T,a.tdiv 2=T:=⟨_,rfl⟩;obtain⟨M,hM⟩:∃M,a.tmod 2=M:=⟨_,rfl⟩;obtain⟨f1,f2,f3⟩:=Mx a T M hT hM;have wT:IntKind.i64.wrap T=T:=YG _ ⟨by omega,by omega⟩;have wM:IntKind.i64.wrap M=M:=YG _ ⟨by omega,by omega⟩;have w4:IntKind.i64.wrap (T-1)=T-1:=YG _ ⟨by omega,by omega⟩;cases e1:decide (M<0)
 ·have F:=X6 (f3 (YS e1));clear f1 f2 f3 ha;go_enter func140,ntmps140;go_wp2_with fail;go_ret;exact⟨by rw[<-F.out];rfl,rfl⟩
 ·have F:=X6 (f2 (YZ e1));clear f1 f2 f3 ha;go_enter func140,ntmps140;go_wp2_with fail;go_ret;exact⟨by rw[<-F.out];rfl,rfl⟩
theorem GC(s:me)(c:Int)(w:World)(hs:P3 s)(hc:CB c):Calls prog 95 #[.agg (lj s).toArray,c] w (oD (ou (oc s c)) w):=by
 obtain⟨x1,x2,x3,y,hv⟩:∃x1 x2 x3 y,ou (oc s c)= .tuple #[.agg #[.int .i64 x1,.int .i64 x2,.int .i64 x3],.bool y]:=⟨_,_,_,_,rfl⟩;rw[hv];have HV:=X6 hv;clear hv;have h3b:=nP hs.m3 hc;have h1b:=nP hs.m1 hc;have Yt:=nP hs.w hc;have vk:=hc.b;obtain⟨m,hm⟩:∃m,m=(mj s.m3 c).1:=⟨_,rfl⟩;obtain⟨lm,wF⟩:∃m,m=(mj s.m3 c).2:=⟨_,rfl⟩;obtain⟨n,hn⟩:∃m,m=(mj s.m1 c).1:=⟨_,rfl⟩;obtain⟨ln,zv⟩:∃m,m=(mj s.m1 c).2:=⟨_,rfl⟩;obtain⟨wv,Jt⟩:∃m,m=(mj s.w c).1:=⟨_,rfl⟩;obtain⟨is,yu⟩:∃m,m=(mj s.w c).2:=⟨_,rfl⟩;obtain⟨f,hf⟩:∃m,m=mS s:=⟨_,rfl⟩;have Eo:0<=f/\f<=4398046511104:=by rw[hf];have:=hs.b.b1;have:=hs.b.b3;have:=hs.b.p1;have:=hs.b.p3;unfold mS;omega
 have RK:Hid (oc s c=DS (lF s c) c f m n wv lm ln is):=X6 (by rw[hm,wF,hn,zv,Jt,yu,hf];rfl);have JT:Hid (∀v,0<=lF s c v/\(lF s c v<=10995116277760\/lF s c v=v)):=X6 (λv=>by
  by_cases he:lF s c v=v
  ·have:0<=lF s c v:=(by unfold lF;dsimp only;omega);exact⟨this,.inr he⟩
  ·have:=vD hs.mz hs.my hc he;exact⟨this.1,.inl this.2⟩)
 have vV:Hid (∀W,Calls prog 84 #[.agg #[.int .u8 s.m3.k,s.m3.n],c] W (oD (.tuple #[m,lm]) W)):=X6 (λW=>by rw[hm,wF];exact yr s.m3 c W hs.m3 hc);have sI:Hid (∀W,Calls prog 84 #[.agg #[.int .u8 s.m1.k,s.m1.n],c] W (oD (.tuple #[n,ln]) W)):=X6 (λW=>by rw[hn,zv];exact yr s.m1 c W hs.m1 hc);have xV:Hid (∀W,Calls prog 84 #[.agg #[.int .u8 s.w.k,s.w.n],c] W (oD (.tuple #[wv,is]) W)):=X6 (λW=>by rw[Jt,yu];exact yr s.w c W hs.w hc);have AK:Hid (∀W,Calls prog 82 #[.agg (lj s).toArray] W λe w'=>(∃d:Int,e= .returned (.tuple #[f,d]))/\Below W.heap.size W w'):=X6 (λW=>by rw[hf];exact vu s W hs.b);have Cb:Hid (∀v W,Calls prog 167 #[.agg (lj s).toArray,c,.int .i64 v] W (oD (.int .i64 (lF s c v)) W)):=X6 (λv W=>Li s c v W hs.mz hs.my hc);rw[<-hm]at h3b;rw[<-hn]at h1b;rw[<-Jt]at Yt;clear hm wF hn zv Jt yu hf hs hc;have hmx:max c 0=c:=by omega
 have Pk:decide (c<0)=false:=X9 (by omega);have hm3:(if 0<=c then c else 0)=c:=YP vk.1;go_enter func95,ntmps95;go_upto_region 1 with(fail)
 obtain⟨gs,rL⟩:∃gs,gs=w.heap.size:=⟨_,rfl⟩;obtain⟨gu,rW⟩:∃gu,gu=w.heap.size+1:=⟨_,rfl⟩;have rK:=X6 (N1.start s w);obtain⟨w1,mW⟩:∃w1,w1=(w.alloc (.cells (lj s).toArray 63)).alloc (.cells #[lx,lx,lx] 40):=⟨_,rfl⟩;have HE:Hid ((w.alloc (.cells (lj s).toArray 63)).alloc (.cells #[lx,lx,lx] 40)=w1):=X6 mW.symm;rw[<-mW,<-rW,<-rL]at rK;rw[<-rW,<-rL];first | rw[HE.out] | (rw[show((w.alloc _).alloc _)=w1 from HE.out])
 clear mW HE rL rW;go_upto_region 2 with(fail)
 go_upto_region 3 with(first
  | refine wpList_load_mid rfl 63 (.tmp 2) rfl gs 0 rfl (lj s) _ rK.mid underlying63 rfl (by kernel_rfl) ?_
  | (go_at_call 82;refine(AK.out _).mono ?_;rintro e w2 ⟨⟨d9,rfl⟩,hb⟩;have tX:=X6 (rK.lR hb);clear hb))
 obtain⟨⟨EY,Db⟩,⟨EF,DV⟩,y4,y5⟩:=tX.cells;go_upto_region 4 with(go_at_call 84;refine(vV.out _).mono ?_;rintro e w3 ⟨rfl,hb⟩;have zF:=X6 (tX.lR hb);clear hb);clear EY Db EF DV y4 y5;obtain⟨⟨EY,Db⟩,⟨EF,DV⟩,y4,y5⟩:=zF.cells;go_upto_region 5 with(go_at_call 84;refine(sI.out _).mono ?_;rintro e w4 ⟨rfl,hb⟩;have Gk:=X6 (zF.lR hb);clear hb);clear EY Db EF DV y4 y5;obtain⟨⟨EY,Db⟩,⟨EF,DV⟩,y4,y5⟩:=Gk.cells;go_upto_region 6 with(go_at_call 84;refine(xV.out _).mono ?_;rintro e w5 ⟨rfl,hb⟩;have xJ:=X6 (Gk.lR hb);clear hb);clear EY Db EF DV y4 y5;clear vV sI xV AK;obtain⟨w0,Nl⟩:∃w0,w0=(bif is then wv else max (c-f-m-n) 0):=⟨_,rfl⟩;have hw0b: -10995116277760<=w0/\w0<=30000000000000:=by rw[Nl];cases is<;>simp only[aCU,aCF]<;>omega
 have G6:=X6 Nl;clear Nl;obtain⟨cl,oR⟩:∃cl,cl=lF s c w0:=⟨_,rfl⟩;have hclb:0<=cl/\cl<=30000000000000:=by rw[oR];have:=JT.out w0;omega
 have UO:Hid (∀W,Calls prog 167 #[.agg (lj s).toArray,c,w0] W (oD (.int .i64 cl) W)):=X6 (λW=>by rw[oR];exact Cb.out w0 W);have HCQ:=X6 oR;clear oR Cb JT;have wf1:IntKind.i64.wrap (c-f)=c-f:=YG _ ⟨by omega,by omega⟩;obtain⟨LF,hLF⟩:∃LF,LF=(bif !lm && !ln then max (c-f-cl) 0 / 2 else bif !lm then max (c-f-cl-n) 0 else m):=⟨_,rfl⟩;have hLb: -10995116277760<=LF/\LF<=30000000000000:=by rw[hLF];cases lm<;>cases ln<;>simp only[aCU,aCF,aDM,Bool.not_false,Bool.and_true,Bool.and_false]<;>omega
 have vQ:=X6 hLF;clear hLF;have Cf:Hid (oc s c=bif is || (cl != w0)then(cl,LF,c-f-cl-LF)else(w0,m,c-f-w0-m)):=X6 (by rw[RK.out];unfold DS;dsimp only;rw[<-G6.out,<-HCQ.out,<-vQ.out]);have Ii:Hid (∀A B D,oc s c=(A,B,D)->∀W,Calls prog 168 #[.agg #[.int .i64 A,.int .i64 B,.int .i64 D]] W (oD (.tuple #[.agg #[x1,x2,x3],y]) W)):=X6 (λA B D h W=>by have h2:=Cc A B D W;rw[<-h,HV.out]at h2;exact h2);clear RK HV HCQ;cases is
 ·obtain⟨D,hD⟩:∃D,D=c-f-m-n:=⟨_,rfl⟩;have HD:Hid (w0=max D 0):=X6 (by rw[G6.out,hD];rfl);have wf2:IntKind.i64.wrap (c-f-m)=c-f-m:=YG _ ⟨by omega,by omega⟩;have wf3:IntKind.i64.wrap (c-f-m-n)=D:=by rw[hD];exact YG _ ⟨by omega,by omega⟩
  clear hD;go_upto_region 7 with(fail)
  go_cut [12] (λsx wx=>sx= .int .i64 w0/\w5=wx);case first=>
   go_wp2_with fail;all_goals go_meet
   all_goals exact⟨by congr 1;have:=HD.out;omega,rfl⟩
  case rest=>
  obtain⟨rfl,rfl⟩:=hcut;clear wf2 wf3 G6;cases d:(cl == w0)
  ·have HN:Hid (oc s c=(cl,LF,c-f-cl-LF)):=X6 (by rw[Cf.out];have:(cl != w0)=true:=(by rw[bne,d];rfl);rw[this];rfl);go_upto_region 10 with(first
    | refine wpList_load_mid rfl 63 (.tmp 2) rfl gs 0 rfl (lj s) _ xJ.mid underlying63 rfl (by kernel_rfl) ?_
    | (go_at_call 167;refine(UO.out _).mono ?_;rintro e w6 ⟨rfl,hb⟩;have II:=X6 (xJ.lR hb);clear hb))
   clear d;have LX:=X6 (Ii.out _ _ _ HN.out);clear HN Cf Ii;go_upto_region 11 with(first
    | refine wpList_load_mid rfl 63 (.tmp 2) rfl gs 0 rfl (lj s) _ II.mid underlying63 rfl (by kernel_rfl) ?_
    | (go_at_call 167;refine(UO.out _).mono ?_;rintro e w7 ⟨rfl,hb⟩;have HX7:=X6 (II.lR hb);clear hb))
   go_upto_block 0 with(fail);go_cut [14] (λsb wx=>sb= .int .i64 LF/\w7=wx);case first=>
    cases lm
    ·cases ln
     ·obtain⟨V,hV⟩:∃V,V=c-f-cl:=⟨_,rfl⟩;have HD:Hid (LF=max V 0 / 2):=X6 (by rw[vQ.out,hV];rfl);have wf4:IntKind.i64.wrap (c-f-cl)=V:=(by rw[hV];exact YG _ ⟨by omega,by omega⟩);have hVb: -40000000000000<=V/\V<=40000000000000:=(by omega);obtain⟨L,hL⟩:∃L,L=V / 2:=⟨_,rfl⟩;have HL:=X6 hL;have RB:Hid (∀W,Calls prog 140 #[V,.int .i64 2] W λe w'=>e= .returned L/\W=w'):=X6 (λW=>by rw[hL];exact D8 V W (by omega));clear hV hL;go_wp2_with (go_at_call 140;refine(RB.out _).mono ?_;rintro e w' ⟨rfl,rfl⟩);all_goals go_meet
      all_goals exact⟨by congr 1;have:=HD.out;have:=HL.out;omega,rfl⟩
     ·obtain⟨V,hV⟩:∃V,V=c-f-cl-n:=⟨_,rfl⟩;have HD:Hid (LF=max V 0):=X6 (by rw[vQ.out,hV];rfl);have wf4:IntKind.i64.wrap (c-f-cl)=c-f-cl:=YG _ ⟨by omega,by omega⟩;have wf5:IntKind.i64.wrap (c-f-cl-n)=V:=(by rw[hV];exact YG _ ⟨by omega,by omega⟩);clear hV;go_wp2_with fail;all_goals go_meet
      all_goals exact⟨by congr 1;have:=HD.out;omega,rfl⟩
    ·have HD:Hid (LF=m):=X6 (by rw[vQ.out];rfl);go_wp2_with fail;go_meet;exact⟨by rw[HD.out],rfl⟩
   case rest=>
   obtain⟨rfl,rfl⟩:=hcut;have wf4:IntKind.i64.wrap (c-f-cl)=c-f-cl:=YG _ ⟨by omega,by omega⟩;have wf5:IntKind.i64.wrap (c-f-cl-LF)=c-f-cl-LF:=YG _ ⟨by omega,by omega⟩;go_wp2_with (go_at_call 168;refine(LX.out _).mono ?_;rintro e w8 ⟨rfl,hb⟩;have qW:=X6 (HX7.lR hb);clear hb;have z0:=qW.us.get 0 rfl;have z1:=qW.us.get 1 rfl;have z2:=qW.us.get 2 rfl;have z0f:=qW.us.frozen 0;have z1f:=qW.us.frozen 1;have z2f:=qW.us.frozen 2);exact ZQ (oJ rfl _ _ gu x1 x2 x3 _ rfl rfl (qW.fin x1 x2 x3).1) rfl ⟨rfl,(qW.fin x1 x2 x3).2⟩
  ·have HN:Hid (oc s c=(w0,m,c-f-w0-m)):=X6 (by rw[Cf.out];have:(cl != w0)=false:=(by rw[bne,d];rfl);rw[this];rfl);have LX:=X6 (Ii.out _ _ _ HN.out);have wf4:IntKind.i64.wrap (c-f-w0)=c-f-w0:=YG _ ⟨by omega,by omega⟩;have wf5:IntKind.i64.wrap (c-f-w0-m)=c-f-w0-m:=YG _ ⟨by omega,by omega⟩;clear HN Cf Ii;go_upto_region 9 with(first
    | refine wpList_load_mid rfl 63 (.tmp 2) rfl gs 0 rfl (lj s) _ xJ.mid underlying63 rfl (by kernel_rfl) ?_
    | (go_at_call 167;refine(UO.out _).mono ?_;rintro e w6 ⟨rfl,hb⟩;have II:=X6 (xJ.lR hb);clear hb))
   go_wp2_with (go_at_call 168;refine(LX.out _).mono ?_;rintro e w8 ⟨rfl,hb⟩;have qW:=X6 (II.lR hb);clear hb;have z0:=qW.us.get 0 rfl;have z1:=qW.us.get 1 rfl;have z2:=qW.us.get 2 rfl;have z0f:=qW.us.frozen 0;have z1f:=qW.us.frozen 1;have z2f:=qW.us.frozen 2);exact ZQ (oJ rfl _ _ gu x1 x2 x3 _ rfl rfl (qW.fin x1 x2 x3).1) rfl ⟨rfl,(qW.fin x1 x2 x3).2⟩
 ·have HD:Hid (w0=wv):=X6 (by rw[G6.out];rfl);have HN:Hid (oc s c=(cl,LF,c-f-cl-LF)):=X6 (by rw[Cf.out];rfl);rw[<-HD.out];clear G6 HD;go_upto_region 10 with(fail)
  have LX:=X6 (Ii.out _ _ _ HN.out);clear HN Cf Ii;go_upto_region 11 with(first
   | refine wpList_load_mid rfl 63 (.tmp 2) rfl gs 0 rfl (lj s) _ xJ.mid underlying63 rfl (by kernel_rfl) ?_
   | (go_at_call 167;refine(UO.out _).mono ?_;rintro e w7 ⟨rfl,hb⟩;have HX7:=X6 (xJ.lR hb);clear hb))
  go_upto_block 0 with(fail);go_cut [14] (λsb wx=>sb= .int .i64 LF/\w7=wx);case first=>
   cases lm
   ·cases ln
    ·obtain⟨V,hV⟩:∃V,V=c-f-cl:=⟨_,rfl⟩;have HD:Hid (LF=max V 0 / 2):=X6 (by rw[vQ.out,hV];rfl);have wf4:IntKind.i64.wrap (c-f-cl)=V:=(by rw[hV];exact YG _ ⟨by omega,by omega⟩);have hVb: -40000000000000<=V/\V<=40000000000000:=(by omega);obtain⟨L,hL⟩:∃L,L=V / 2:=⟨_,rfl⟩;have HL:=X6 hL;have RB:Hid (∀W,Calls prog 140 #[V,.int .i64 2] W λe w'=>e= .returned L/\W=w'):=X6 (λW=>by rw[hL];exact D8 V W (by omega));clear hV hL;go_wp2_with (go_at_call 140;refine(RB.out _).mono ?_;rintro e w' ⟨rfl,rfl⟩);all_goals go_meet
     all_goals exact⟨by congr 1;have:=HD.out;have:=HL.out;omega,rfl⟩
    ·obtain⟨V,hV⟩:∃V,V=c-f-cl-n:=⟨_,rfl⟩;have HD:Hid (LF=max V 0):=X6 (by rw[vQ.out,hV];rfl);have wf4:IntKind.i64.wrap (c-f-cl)=c-f-cl:=YG _ ⟨by omega,by omega⟩;have wf5:IntKind.i64.wrap (c-f-cl-n)=V:=(by rw[hV];exact YG _ ⟨by omega,by omega⟩);clear hV;go_wp2_with fail;all_goals go_meet
     all_goals exact⟨by congr 1;have:=HD.out;omega,rfl⟩
   ·have HD:Hid (LF=m):=X6 (by rw[vQ.out];rfl);go_wp2_with fail;go_meet;exact⟨by rw[HD.out],rfl⟩
  case rest=>
  obtain⟨rfl,rfl⟩:=hcut;have wf4:IntKind.i64.wrap (c-f-cl)=c-f-cl:=YG _ ⟨by omega,by omega⟩;have wf5:IntKind.i64.wrap (c-f-cl-LF)=c-f-cl-LF:=YG _ ⟨by omega,by omega⟩;go_wp2_with (go_at_call 168;refine(LX.out _).mono ?_;rintro e w8 ⟨rfl,hb⟩;have qW:=X6 (HX7.lR hb);clear hb;have z0:=qW.us.get 0 rfl;have z1:=qW.us.get 1 rfl;have z2:=qW.us.get 2 rfl;have z0f:=qW.us.frozen 0;have z1f:=qW.us.frozen 1;have z2f:=qW.us.frozen 2);exact ZQ (oJ rfl _ _ gu x1 x2 x3 _ rfl rfl (qW.fin x1 x2 x3).1) rfl ⟨rfl,(qW.fin x1 x2 x3).2⟩
theorem U2(s:me)(c p q:Int)(w:World)(hs:P3 s)(hc:CB c)(hp:0<=p/\p<=1099511627776)(hq:0<=q/\q<=1099511627776):Calls prog 97 #[.agg (lj s).toArray,c,p,q] w (oD (ou (vA s c p q)) w):=by
 obtain⟨x1,x2,x3,y,hv⟩:∃x1 x2 x3 y,ou (vA s c p q)= .tuple #[.agg #[.int .i64 x1,.int .i64 x2,.int .i64 x3],.bool y]:=⟨_,_,_,_,rfl⟩;rw[hv];have HV:=X6 hv;clear hv;have h3b:=nP hs.m3 hc;have h1b:=nP hs.m1 hc;have Yt:=nP hs.w hc;have vk:=hc.b;obtain⟨m,hm⟩:∃m,m=(mj s.m3 c).1:=⟨_,rfl⟩;obtain⟨lm,wF⟩:∃m,m=(mj s.m3 c).2:=⟨_,rfl⟩;obtain⟨n,hn⟩:∃m,m=(mj s.m1 c).1:=⟨_,rfl⟩;obtain⟨ln,zv⟩:∃m,m=(mj s.m1 c).2:=⟨_,rfl⟩;obtain⟨wv,Jt⟩:∃m,m=(mj s.w c).1:=⟨_,rfl⟩;obtain⟨is,yu⟩:∃m,m=(mj s.w c).2:=⟨_,rfl⟩;obtain⟨f,hf⟩:∃m,m=mS s:=⟨_,rfl⟩;have Eo:0<=f/\f<=4398046511104:=by rw[hf];have:=hs.b.b1;have:=hs.b.b3;have:=hs.b.p1;have:=hs.b.p3;unfold mS;omega
 have RK:Hid (vA s c p q=(lF s c (if is then wv else min q (max p (c-f-m-n))),m,n)):=X6 (by rw[hm,hn,Jt,yu,hf];rfl);have JT:Hid (∀v,0<=lF s c v/\(lF s c v<=10995116277760\/lF s c v=v)):=X6 (λv=>by
  by_cases he:lF s c v=v
  ·have:0<=lF s c v:=(by unfold lF;dsimp only;omega);exact⟨this,.inr he⟩
  ·have:=vD hs.mz hs.my hc he;exact⟨this.1,.inl this.2⟩)
 have vV:Hid (∀W,Calls prog 84 #[.agg #[.int .u8 s.m3.k,s.m3.n],c] W (oD (.tuple #[m,lm]) W)):=X6 (λW=>by rw[hm,wF];exact yr s.m3 c W hs.m3 hc);have sI:Hid (∀W,Calls prog 84 #[.agg #[.int .u8 s.m1.k,s.m1.n],c] W (oD (.tuple #[n,ln]) W)):=X6 (λW=>by rw[hn,zv];exact yr s.m1 c W hs.m1 hc);have xV:Hid (∀W,Calls prog 84 #[.agg #[.int .u8 s.w.k,s.w.n],c] W (oD (.tuple #[wv,is]) W)):=X6 (λW=>by rw[Jt,yu];exact yr s.w c W hs.w hc);have AK:Hid (∀W,Calls prog 82 #[.agg (lj s).toArray] W λe w'=>(∃d:Int,e= .returned (.tuple #[f,d]))/\Below W.heap.size W w'):=X6 (λW=>by rw[hf];exact vu s W hs.b);have Cb:Hid (∀v W,Calls prog 167 #[.agg (lj s).toArray,c,.int .i64 v] W (oD (.int .i64 (lF s c v)) W)):=X6 (λv W=>Li s c v W hs.mz hs.my hc);rw[<-hm]at h3b;rw[<-hn]at h1b;rw[<-Jt]at Yt;clear hm wF hn zv Jt yu hf hs hc;have hmx:max c 0=c:=by omega
 have Pk:decide (c<0)=false:=X9 (by omega);have hm3:(if 0<=c then c else 0)=c:=YP vk.1;go_enter func97,ntmps97;go_upto_region 1 with(fail)
 obtain⟨gs,rL⟩:∃gs,gs=w.heap.size:=⟨_,rfl⟩;obtain⟨gu,rW⟩:∃gu,gu=w.heap.size+1:=⟨_,rfl⟩;have rK:=X6 (N1.start s w);obtain⟨w1,mW⟩:∃w1,w1=(w.alloc (.cells (lj s).toArray 63)).alloc (.cells #[lx,lx,lx] 40):=⟨_,rfl⟩;have HE:Hid ((w.alloc (.cells (lj s).toArray 63)).alloc (.cells #[lx,lx,lx] 40)=w1):=X6 mW.symm;rw[<-mW,<-rW,<-rL]at rK;rw[<-rW,<-rL];first | rw[HE.out] | (rw[show((w.alloc _).alloc _)=w1 from HE.out])
 clear mW HE rL rW;go_upto_region 2 with(fail)
 go_upto_region 3 with(first
  | refine wpList_load_mid rfl 63 (.tmp 4) rfl gs 0 rfl (lj s) _ rK.mid underlying63 rfl (by kernel_rfl) ?_
  | (go_at_call 82;refine(AK.out _).mono ?_;rintro e w2 ⟨⟨d9,rfl⟩,hb⟩;have tX:=X6 (rK.lR hb);clear hb))
 obtain⟨⟨EY,Db⟩,⟨EF,DV⟩,y4,y5⟩:=tX.cells;go_upto_region 4 with(go_at_call 84;refine(vV.out _).mono ?_;rintro e w3 ⟨rfl,hb⟩;have zF:=X6 (tX.lR hb);clear hb);clear EY Db EF DV y4 y5;obtain⟨⟨EY,Db⟩,⟨EF,DV⟩,y4,y5⟩:=zF.cells;go_upto_region 5 with(go_at_call 84;refine(sI.out _).mono ?_;rintro e w4 ⟨rfl,hb⟩;have Gk:=X6 (zF.lR hb);clear hb);clear EY Db EF DV y4 y5;obtain⟨⟨EY,Db⟩,⟨EF,DV⟩,y4,y5⟩:=Gk.cells;go_upto_region 6 with(go_at_call 84;refine(xV.out _).mono ?_;rintro e w5 ⟨rfl,hb⟩;have xJ:=X6 (Gk.lR hb);clear hb);clear EY Db EF DV y4 y5;clear vV sI xV AK;obtain⟨w0,Nl⟩:∃w0,w0=(if is then wv else min q (max p (c-f-m-n))):=⟨_,rfl⟩;have G6:=X6 Nl;clear Nl;obtain⟨cl,oR⟩:∃cl,cl=lF s c w0:=⟨_,rfl⟩;have UO:Hid (∀W,Calls prog 167 #[.agg (lj s).toArray,c,w0] W (oD (.int .i64 cl) W)):=X6 (λW=>by rw[oR];exact Cb.out w0 W);have HN:Hid (vA s c p q=(cl,m,n)):=X6 (by rw[RK.out,<-G6.out,<-oR]);have LX:Hid (∀W,Calls prog 168 #[.agg #[cl,m,n]] W (oD (.tuple #[.agg #[x1,x2,x3],y]) W)):=X6 (λW=>by have h2:=Cc cl m n W;rw[<-HN.out,HV.out]at h2;exact h2);clear HN HV RK oR Cb JT;go_upto_if 49 with(fail);go_cut [16] (λsx wx=>sx= .int .i64 w0/\w5=wx);case first=>
  cases is
  ·obtain⟨D,hD⟩:∃D,D=c-f-m-n:=⟨_,rfl⟩;have HD:Hid (w0=min q (max p D)):=X6 (by rw[G6.out,hD];rfl);have wf1:IntKind.i64.wrap (c-f)=c-f:=YG _ ⟨by omega,by omega⟩;have wf2:IntKind.i64.wrap (c-f-m)=c-f-m:=YG _ ⟨by omega,by omega⟩;have wf3:IntKind.i64.wrap (c-f-m-n)=D:=(by rw[hD];exact YG _ ⟨by omega,by omega⟩);clear hD;go_wp2_with fail;all_goals go_meet
   all_goals exact⟨by congr 1;have:=HD.out;omega,rfl⟩
  ·have HD:Hid (w0=wv):=X6 (by rw[G6.out];rfl);go_wp2_with fail;go_meet;exact⟨by rw[HD.out],rfl⟩
 case rest=>
 obtain⟨rfl,rfl⟩:=hcut;go_wp2_with (first
  | refine wpList_load_mid rfl 63 (.tmp 4) rfl gs 0 rfl (lj s) _ xJ.mid underlying63 rfl (by kernel_rfl) ?_
  | (go_at_call 167;refine(UO.out _).mono ?_;rintro e w7 ⟨rfl,hb⟩;have HX7:=X6 (xJ.lR hb);clear hb)
  | (go_at_call 168;refine(LX.out _).mono ?_;rintro e w8 ⟨rfl,hb⟩;have qW:=X6 (HX7.lR hb);clear hb;have z0:=qW.us.get 0 rfl;have z1:=qW.us.get 1 rfl;have z2:=qW.us.get 2 rfl;have z0f:=qW.us.frozen 0;have z1f:=qW.us.frozen 1;have z2f:=qW.us.frozen 2))
 exact ZQ (oJ rfl _ _ gu x1 x2 x3 _ rfl rfl (qW.fin x1 x2 x3).1) rfl ⟨rfl,(qW.fin x1 x2 x3).2⟩
end Go.Proofs.YtjhingednpjogaaGreat
