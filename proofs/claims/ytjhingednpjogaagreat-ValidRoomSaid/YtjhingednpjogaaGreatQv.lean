/- Lemmas for ValidRoom; laid together by a program. -/
import Derived.Test.YtjhingednpjogaaGreatQua
import Derived.Test.YtjhingednpjogaaGreatQub
import Derived.Test.YtjhingednpjogaaGreatQud
set_option linter.all false
set_option maxRecDepth 100000
set_option maxHeartbeats 40000000
namespace Go.Proofs.YtjhingednpjogaaGreat
open Go.Proofs.Tryz
open Go.RowKit
attribute [local go_sem] lp yY yB
theorem Sl(C:Qx)(hC:nJ C):∀(f b:Nat) (x a s1 s2:Int) (Af:Option Addr) (cf:Nat) (fl:List Fl) (W:World),b<C.l.length->C.l.length<=b+f->nT C a s1 s2 Af cf fl W->fl.length+ny C.l f b<=65536-> Calls prog 194 #[.pointer C.bw,.int .i64 (b:Int),.int .i64 x] W λe w'=>(∃v,e= .returned v)/\CoQ C W (fl.length+ny C.l f b) w':=by
 intro f;induction f with
 | zero=>intro b x a s1 s2 Af cf fl W h1 h2;omega
 | succ f ih=>
 intro b x a s1 s2 Af cf fl W hb hbf h Eo;have HC:=X6 hC;have HB:=X6 hb;have HN:=X6 hC.n.2;obtain⟨ks,qA⟩:∃ks,ks=oF C.l b:=⟨_,rfl⟩;obtain⟨Ak,ck,JX⟩:=hC.kids b hb;rw[<-qA]at JX;have Mh:=X6 (λa s1 s2 Af cf fl W (h:nT C a s1 s2 Af cf fl W)=>JX W h.kd h.sz);have S6:Hid (∀k∈ks,∃q:Nat,k=(q:Int)/\q<C.l.length/\b<q):=X6 (λk hk=>by rw[qA]at hk;obtain⟨q,h1,h2,_,h4⟩:=tu hk;exact⟨q,h1,h2,h4⟩);have E8:Hid (ks.length<=65536):=X6 (by rw[qA];have:=vj C.l b;have:=hC.n.2;omega);have HDZ:Hid (ny C.l (f+1) b=1+(ks.map λk=>ny C.l f k.toNat).sum):=X6 (by rw[ny,qA]);have HFB:=X6 Eo;have HBF:=X6 hbf;have R3:=X6 ih;have SV:=X6 (λa s1 s2 Af cf fl W (h:nT C a s1 s2 Af cf fl W)=>rP C a s1 s2 Af cf fl W hC h);have HUS:=X6 (λa s1 s2 Af cf fl W (h:nT C a s1 s2 Af cf fl W) i=>sN C a s1 s2 Af cf fl W hC h i);have Vj:=X6 (λa s1 s2 Af cf fl W (h:nT C a s1 s2 Af cf fl W) i=>CQ C a s1 s2 Af cf fl W hC h i);have rT:=X6 (λa s1 s2 Af cf fl W (h:nT C a s1 s2 Af cf fl W)=>rY C a s1 s2 Af cf fl W hC h);have Xr:=X6 (λx y z W=>uN x y z W);have Cb:=X6 (λa s1 s2 Af cf fl W (h:nT C a s1 s2 Af cf fl W) (hn:fl.length<=65536) sd y=>td fl Af cf W sd y hn (Reads.mo h.fo));have ru:=X6 (λa s1 s2 Af cf fl W (h:nT C a s1 s2 Af cf fl W)=>by have hl:=Dw C.l C.A C.A2 C.c C.adv.length C.c2 C.view W (ks.map Int.toNat) Ak ck b hb hC.n.2 (λx hx=>by obtain⟨y,hy,rfl⟩:=Z7.1 hx;obtain⟨q,e,h1,_⟩:=S6.out y hy;omega) ((hC.tr.nd.below h.b).more h.b.size) (by rw[Ts,<-PD ks (λk hk=>by obtain⟨q,e,_⟩:=S6.out k hk;omega)];exact(Mh.out _ _ _ _ _ _ _ h).2.2);rw[Ts]at hl;exact hl);have XP:=X6 (λa s1 s2 Af cf fl W (h:nT C a s1 s2 Af cf fl W)=>yH C.l C.adv ks C.A C.A2 Ak C.c C.c2 ck C.view W ((hC.tr.below h.b).more h.b.size) (Mh.out _ _ _ _ _ _ _ h).2.2 (λk hk=>by obtain⟨q,e,h1,_⟩:=S6.out k hk;omega) (by have:=E8.out;omega) (by rw[qA];have:=hC.un b hb;omega) (λx hx=>by have:=hC.u1 x hx;omega));have Bf:Hid (C.nw b=(lP C.l C.adv ks).1.length/\(lP C.l C.adv ks).1.length<=60000/\∀x∈(lP C.l C.adv ks).1,0<=x.forced/\x.forced<=60000):=X6 ⟨by unfold Qx.nw;rw[qA],by rw[qA];exact YL (JH C.l C.adv _) (hC.un b hb),by simpa using Mt C.l C.adv ks 60000 hC.u1⟩;have HV0:Hid (pj C W [] a s1 s2 Af cf fl W):=X6 ⟨h,by simp,uG.refl⟩;have FC:(b:Int)<(C.l.length:Int):=by omega
 clear JX qA ih h Eo hbf hC;go_enter func194,ntmps194;as_aux_lemma=>
 go_upto_region 0 with(fail);as_aux_lemma=>
 go_cut [6] (λv V=>(∃r:Int,v= .int .i64 r)/\Hid (pj C W [] a s1 s2 Af cf fl V));case first=>
  as_aux_lemma=>
  go_wp2_with (go_at_call 195;refine(HUS.out _ _ _ _ _ _ _ HV0.w b).mono ?_;rintro e w1 ⟨⟨u1,u2,u3,rfl⟩,nY⟩;have HV1:=X6 (HV0.lR HC.out nY);clear nY);go_meet;exact⟨⟨_,rfl⟩,HV1⟩
 case rest=>
 as_aux_lemma=>
 clear HV0;obtain⟨⟨rt,rfl⟩,HV⟩:=hcut;obtain⟨⟨c0,c1,c2,c4,c5,c6⟩,-,-,cl⟩:=HV.w.cs;obtain⟨g0,gl,-⟩:=Mh.out _ _ _ _ _ _ _ HV.w;go_upto_if 39 with(go_at_call 71;refine(ru.out _ _ _ _ _ _ _ HV.w).mono ?_;rintro e w2 ⟨⟨bl,rfl⟩,mr⟩;have qH:=X6 (HV.lR HC.out mr);clear mr)
 clear c0 c1 c2 c4 c5 c6 cl g0 gl HV ru;as_aux_lemma=>
 cases bl
 rotate_left
 ·skip
  as_aux_lemma=>
  obtain⟨⟨c0,c1,c2,c4,c5,c6⟩,-,-,cl⟩:=qH.w.cs;obtain⟨ws,hws⟩:∃ws,ws=(lP C.l C.adv ks).1:=⟨_,rfl⟩;rw[<-hws]at XP Bf;clear hws;have HWV:=X6 (XP.out _ _ _ _ _ _ _ qH.w);clear XP;go_upto_region 4 with(go_at_call 72;refine HWV.mono ?_;rintro e w3 ⟨⟨v4,v5,rfl,Bm,-⟩,pn⟩;obtain⟨A4,c4w,rfl⟩:=lZ Bm;have BX:=X6 (qH.lR HC.out pn);have qO:Hid (w3.ownsRow C.B 201 5 (.slice A4 ws.length c4w) ws.length (mC ws)):=X6 (mL Bm (by have:=qH.w.sz;omega));clear pn Bm);clear c0 c1 c2 c4 c5 c6 cl qH HWV;have HE:Hid (CoQ C W (fl.length+ny C.l (f+1) b) w3):=X6 ⟨⟨_,_,_,_,_,_,BX.w,by rw[HDZ.out];omega⟩,BX.k⟩;by_cases hm:0<ws.length
  ·have d0:decide ((0:Int)<(ws.length:Int))=true:=YC (by omega);have pJ:decide (0<ws.length)=true:=YC hm;have EK:=X6 (rT.out _ _ _ _ _ _ _ BX.w);clear HE;go_upto_region 6 with(go_at_call 223;refine EK.mono ?_;rintro e w8 ⟨⟨v8,rfl⟩,⟨a8,MP,MJ,h8⟩,k8⟩;have OP:=X6 (BX.via h8 k8);have HW8:=X6 ((k8 201 (by decide)).own (X7 _) qO.out);clear h8 k8)
   clear BX qO EK;obtain⟨⟨c0,-⟩,-,-,cl⟩:=OP.w.cs;obtain⟨ad,hA,qu,-,hr⟩:=OP.w.nd HC.out b hb;obtain⟨Au,nu,cu,huv⟩:=HC.qt.uv _ (YJ hb);have pP:=X6 hr;have HO:=X6 (me.one (C.l[b]'hb).s huv);obtain⟨s,hs⟩:∃s,s=(C.l[b]'hb).s:=⟨_,rfl⟩;rw[<-hs]at pP HO;rw[hA]at c0;clear hr hs hA huv;go_upto_region 7 with(first | refine wpList_load_mid rfl 63 (.tmp 61) rfl ad.block ((ad.add (b*44)).off+1) rfl (lj s) _ pP.out underlying63 rfl (by kernel_rfl) ?_ | refine lJ rfl 63 _ _ rfl _ rfl (lj s).toArray rfl rfl 63 _ (by kernel_rfl) rfl HO.out ?_)
   have JM:Hid (pj C W [(w8.heap.size,63,(lj s).toArray)] a8 MP MJ Af cf fl (w8.alloc (.cells (lj s).toArray 63))):=X6 ((OP.lR HC.out bA).push (lq.new _ _ _) OP.w.sz (by decide));have HW9:=X6 (HW8.alloc (.cells (lj s).toArray 63));obtain⟨gs,rL⟩:∃g,g=w8.heap.size:=⟨_,rfl⟩;rw[<-rL]at JM⊢;clear rL c0 qu cl pP OP HW8;generalize World.alloc w8 _=w9 at JM HW9⊢;refine wp_region_held_drew (S:=λV=>(∃a,pj C W [(gs,63,(lj s).toArray)] a MP MJ Af cf fl V)/\V.ownsRow C.B 201 5 (.slice A4 ws.length c4w) ws.length (mC ws)) (by kernel_rfl) (And.intro ⟨a8,JM.drew HC.out⟩ HW9.out) (λhS=>?_);refine nk [0,1,2,3,4,5,6,7,8,9,10,11,12,13,14,15,17,18,19,20] ?_;iterate 20
    refine tk hS (y:=by intro W' lr;obtain⟨⟨a9,hV⟩,-⟩:=lr;obtain⟨-,⟨-,-,-,tF⟩,⟨-,-,-,-,c15⟩,cl⟩:=hV.w.cs;have y32:=hV.hd.get 32 (v:= .int .u8 s.align) rfl;have y33:=hV.hd.get 33 (v:= .int .i64 s.line) rfl;have yl:=hV.hd.lt;go_simp;rfl) (h:=?_)
   refine np ?_;refine mV 16 (λK hK=>?_);obtain⟨a9,hV⟩:=hS.1;obtain⟨-,⟨c7,-⟩,-,cl⟩:=hV.w.cs;go_simp;refine ky hK hS λhS=>?_;clear hK;refine mV 21 (λK hK=>?_);go_simp;obtain⟨⟨a21,hV21⟩,hW21⟩:=hS;refine(QC fl Af cf _ ws A4 c4w _ _ _ _ _ (by have:=HFB.out;rw[HDZ.out]at this;omega) (Reads.mo hV21.w.fo) Bf.2.1 Bf.2.2 (Reads.mo hW21)).mono ?_;rintro e SZ ⟨⟨v21,y21,rs21,rfl,hr21,hn21⟩,AG⟩;obtain⟨A21,c21,rfl⟩:=lZ hr21.o;have HR21:=X6 (hr21.low (hV21.w.sz));have HN21:=X6 hn21;clear hr21 hn21;refine ky hK (And.intro ⟨a21,hV21.lR HC.out AG⟩ (lG hW21 AG)) λhS=>?_;clear hK;refine nk [22,23,24,25] ?_;iterate 4
    refine tk hS (y:=by intro W' lr;obtain⟨⟨a9,hV⟩,-⟩:=lr;obtain⟨-,⟨-,-,-,tF⟩,⟨-,-,-,-,c15⟩,cl⟩:=hV.w.cs;have y32:=hV.hd.get 32 (v:= .int .u8 s.align) rfl;have y33:=hV.hd.get 33 (v:= .int .i64 s.line) rfl;have yl:=hV.hd.lt;go_simp;rfl) (h:=?_)
   refine np ?_;refine mV 26 (λK hK=>?_);obtain⟨⟨a26,Va⟩,hW26⟩:=hS;obtain⟨A26,c26,rs26,o26,-⟩:=Va.w.r.at_ HB.out;have ol26:=Va.w.r.lt;have oz26:=Va.w.r.frozen;go_simp;clear o26 ol26 oz26;refine ky hK (And.intro ⟨a26,Va.via (Va.w.setR HC.out b HB.out (Bf.1▸HR21.out) HN21.out) (uG.refl.lA HC.out (g:=C.gr) (by simp[Qx.arr]) b _)⟩ (ZT hW26 (a:=⟨C.gr,b,none⟩) (HC.lw C.gr (by simp[Qx.arr])).2.1 _)) λhS=>?_;clear hK;refine nk [27,28] ?_;iterate 2
    refine tk hS (y:=by intro W' lr;obtain⟨⟨a9,hV⟩,-⟩:=lr;obtain⟨-,⟨-,-,-,tF⟩,⟨-,-,-,-,c15⟩,cl⟩:=hV.w.cs;have y32:=hV.hd.get 32 (v:= .int .u8 s.align) rfl;have y33:=hV.hd.get 33 (v:= .int .i64 s.line) rfl;have yl:=hV.hd.lt;go_simp;rfl) (h:=?_)
   refine np ?_;refine mV 29 (λK hK=>?_);obtain⟨⟨a29,hV29⟩,hW29⟩:=hS;obtain⟨-,⟨c7,-⟩,-,cl⟩:=hV29.w.cs;have cz:=hV29.w.qB.frozen;go_simp;clear c7 cl cz;refine ky hK (And.intro ⟨y21,hV29.setAt HC.out y21⟩ (ZT hW29 (a:=⟨C.bw,7,none⟩) (HC.lw C.bw (by simp[Qx.arr])).2.1 _)) λhS=>?_;clear hK;refine nR ?_;obtain⟨⟨a10,zK⟩,-⟩:=hS;have Co:=X6 zK;clear zK;go_wp2_with fail;exact ZQ (aCR rfl _ _ _) rfl ⟨⟨_,rfl⟩,⟨⟨_,_,_,_,_,_,Co.w,by rw[HDZ.out];omega⟩,Co.k⟩⟩
  ·have d0:decide ((0:Int)<(ws.length:Int))=false:=X9 (by omega);have pJ:decide (0<ws.length)=false:=X9 hm;go_wp2_with fail;exact ZQ (aCR rfl _ _ _) rfl ⟨⟨_,rfl⟩,HE.out⟩
 as_aux_lemma=>
 go_wp2_with fail;as_aux_lemma=>
 go_loopw [11] (λiv wr=>∃(j:Nat) (a s1 s2:Int) (Af:Option Addr) (cf:Nat) (qw:List Fl),j<=ks.length/\iv= .int .i64 (j:Int)/\Hid (pj C W [] a s1 s2 Af cf qw wr/\qw.length<=fl.length+((ks.take j).map λk=>ny C.l f k.toNat).sum)) (λiv _=>ks.length-(intOf iv).toNat);case atStart=>exact⟨0,_,_,_,_,_,fl,by omega,rfl,X6 ⟨qH.out,by simp⟩⟩
 case round=>
  as_aux_lemma=>
  clear qH;obtain⟨j,a,s1,s2,Af,cf,qw,hj,rfl,HVJ⟩:=hrel;have HV:=X6 HVJ.1;have HFJ:=X6 HVJ.2;clear HVJ;have hwj:IntKind.i64.wrap ((j:Int)+1)=(j:Int)+1:=YG _ ⟨by omega,by have:=E8.out;omega⟩;by_cases FA:j<ks.length;rotate_left
  ·have d0:decide ((j:Int)<(ks.length:Int))=false:=X9 (by omega);have pJ:decide (j<ks.length)=false:=X9 FA;have HE:Hid (CoQ C W (fl.length+ny C.l (f+1) b) wr):=X6 ⟨⟨_,_,_,_,_,_,HV.w,by rw[HDZ.out];have:=HFJ.out;have:=WS C.l f ks j;omega⟩,HV.k⟩;as_aux_lemma=>
   go_wp2_with fail;go_end0;exact⟨⟨_,rfl⟩,HE.out⟩
  have d0:decide ((j:Int)<(ks.length:Int))=true:=YC (by omega);have pJ:decide (j<ks.length)=true:=YC FA;have Cq:(j:Int)<(ks.length:Int):=by omega
  obtain⟨q,yi,pW,hbq⟩:=S6.out ks[j] (YJ FA);have HPS:Hid (((ks.take (j+1)).map λk=>ny C.l f k.toNat).sum=((ks.take j).map λk=>ny C.l f k.toNat).sum+ny C.l f q/\((ks.take (j+1)).map λk=>ny C.l f k.toNat).sum<=(ks.map λk=>ny C.l f k.toNat).sum/\0<ny C.l f q):=X6 ⟨by rw[WO C.l f ks j FA,yi];rfl,WS _ _ _ _,dsz_pos _ _ _ (by have:=HBF.out;omega)⟩;have tU:=X6 pW;have HBQ:=X6 hbq;obtain⟨g0,gl,FF⟩:=Mh.out _ _ _ _ _ _ _ HV.w;obtain⟨CA,u,rfl,VA,hx,LZ⟩:=FF.at_ FA;have hu:u= .int .i64 (q:Int):=by rw[<-yi];simpa[lY,FA]using hx.symm
  subst hu;have KQ:(q:Int)<(C.l.length:Int):=by omega
  obtain⟨⟨c0,-⟩,-,-,cl⟩:=HV.w.cs;obtain⟨ad,hA,qu,-,hr⟩:=HV.w.nd HC.out q pW;obtain⟨Au,nu,cu,huv⟩:=HC.qt.uv _ (YJ pW);have pP:=X6 hr;have HO:=X6 (me.one (C.l[q]'pW).s huv);have yT:=X6 (λa s1 s2 Af cf fl W (h:nT C a s1 s2 Af cf fl W)=>qc C.l C.A C.A2 C.c C.adv.length C.c2 C.view W q pW HC.n.2 ((HC.tr.nd.below h.b).more h.b.size) (HC.qt.uv _ (YJ pW)));obtain⟨s,hs⟩:∃s,s=(C.l[q]'pW).s:=⟨_,rfl⟩;rw[<-hs]at pP HO;have TH:=X6 (λa s1 s2 Af cf fl W (h:nT C a s1 s2 Af cf fl W) e he=>Ly C a s1 s2 Af cf fl W HC.out h q pW (by omega) e he);have wZ:=X6 (λa s1 s2 Af cf fl W (h:nT C a s1 s2 Af cf fl W) e he=>rN C a s1 s2 Af cf fl W HC.out h q pW e he);have TO:=X6 (λa s1 s2 Af cf fl W (h:nT C a s1 s2 Af cf fl W)=>sM C a s1 s2 Af cf fl W HC.out h q pW);have HLV:=X6 (λa s1 s2 Af cf fl W (h:nT C a s1 s2 Af cf fl W) below=>vB C a s1 s2 Af cf fl W HC.out h q pW below);rw[hA]at c0;have HAE:=X6 hA;clear hr hs hA huv hx FF yi pW hbq;as_aux_lemma=>
  go_upto_region 13 with(first | refine wpList_load_mid rfl 63 (.tmp 108) rfl ad.block ((ad.add (q*44)).off+1) rfl (lj s) _ pP.out underlying63 rfl (by kernel_rfl) ?_ | refine lJ rfl 63 _ _ rfl _ rfl (lj s).toArray rfl rfl 63 _ (by kernel_rfl) rfl HO.out ?_);have JM:Hid (pj C W [(wr.heap.size,63,(lj s).toArray)] a s1 s2 Af cf qw (wr.alloc (.cells (lj s).toArray 63))):=X6 ((HV.lR HC.out bA).push (lq.new _ _ _) HV.w.sz (by decide));obtain⟨gs,rL⟩:∃g,g=wr.heap.size:=⟨_,rfl⟩;rw[<-rL]at JM⊢;clear rL c0 qu cl pP HV g0 gl VA LZ;generalize World.alloc wr _=w9 at JM⊢;as_aux_lemma=>
  go_upto_region 14 with(go_at_call 225;refine(TH.out _ _ _ _ _ _ _ JM.w 0 (by omega)).mono ?_;rintro e sy ⟨⟨above,rfl⟩,hb10⟩;have Co:=X6 (JM.lR HC.out hb10);clear hb10);clear JM;as_aux_lemma=>
  go_upto_block 2 with(go_at_call 225;refine(TH.out _ _ _ _ _ _ _ Co.w 2 (by omega)).mono ?_;rintro e xM ⟨⟨below,rfl⟩,wh⟩;have HV:=X6 (Co.lR HC.out wh);clear wh);clear Co TH;have xX:Hid (qw.length+ny C.l f q<=65535):=X6 (by have h1:=HFJ.out;have h2:=HPS.out;have h3:=HFB.out;rw[HDZ.out]at h3;omega);have SY:Hid (0<ny C.l f q):=X6 HPS.2.2;have vS:Hid (0<q):=X6 (by have:=HBQ.out;omega);have HQF:Hid (C.l.length<=q+f):=X6 (by have:=HBF.out;have:=HBQ.out;omega);have HREL:∀n:Nat,n<=qw.length+ny C.l f q->n<=fl.length+((ks.take (j+1)).map λk=>ny C.l f k.toNat).sum:=λn hn=>by have h1:=HFJ.out;have h2:=HPS.out;omega
  have BN:=X6 HREL;clear HREL;have V4:Hid (∀V:World,(∃(a s1 s2:Int) (Af:Option Addr) (cf:Nat) (I5:List Fl),pj C W [] a s1 s2 Af cf I5 V/\I5.length<=qw.length+ny C.l f q)->∃(a s1 s2:Int) (Af:Option Addr) (cf:Nat) (I5:List Fl),Hid (pj C W [] a s1 s2 Af cf I5 V/\I5.length<=fl.length+((ks.take (j+1)).map λk=>ny C.l f k.toNat).sum)):=X6 (λV hV=>by obtain⟨a,s1,s2,Af,cf,I5,h1,h2⟩:=hV;exact⟨a,s1,s2,Af,cf,I5,X6 ⟨h1,BN.out _ h2⟩⟩);clear BN;as_aux_lemma=>
  cases Tx:(s.float == 0)
  ·as_aux_lemma=>
   refine Vx (qsw_A C W _ f b q gs x rt above below s _ _ _ Af cf qw HC tU vS xX SY HV Tx (X6 ?_))
   intros
   rename_i V hV;obtain⟨a,s1,s2,A3,c3,I5,Uq⟩:=V4.out V hV;clear hV;go_wp2_with fail;go_roundw;case rel=>exact⟨j+1,_,_,_,_,_,_,by omega,by go_num,Uq⟩
   case measure=>simp[intOf];omega
  ·cases er:mZ C.l q
   rotate_left
   ·as_aux_lemma=>
    refine Vx (qsw_B C W _ f b q gs x rt above below s _ _ _ Af cf qw HC tU vS xX SY HV Tx er (X6 ?_))
    intros
    rename_i V hV;obtain⟨a,s1,s2,A3,c3,I5,Uq⟩:=V4.out V hV;clear hV;go_wp2_with fail;go_roundw;case rel=>exact⟨j+1,_,_,_,_,_,_,by omega,by go_num,Uq⟩
    case measure=>simp[intOf];omega
   ·as_aux_lemma=>
    refine Vx (qsw_D C W _ f b q gs x rt above below s _ _ _ Af cf qw HC tU vS xX SY HV Tx er HQF (X6 λx a s1 s2 Af cf fl W h Eo=>R3.out q x a s1 s2 Af cf fl W tU.out HQF.out h Eo) (X6 ?_))
    intros
    rename_i V hV;obtain⟨a,s1,s2,A3,c3,I5,Uq⟩:=V4.out V hV;clear hV;go_wp2_with fail;go_roundw;case rel=>exact⟨j+1,_,_,_,_,_,_,by omega,by go_num,Uq⟩
    case measure=>simp[intOf];omega
end Go.Proofs.YtjhingednpjogaaGreat
