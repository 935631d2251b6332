/- Lemmas for ValidRoom; laid together by a program. -/
import Derived.Test.YtjhingednpjogaaGreatAsc
import Derived.Test.YtjhingednpjogaaGreatWfr
import Derived.Test.YtjhingednpjogaaGreatRmn
set_option linter.all false
set_option maxRecDepth 100000
set_option maxHeartbeats 2000000
namespace Go.Proofs.YtjhingednpjogaaGreat
open Go.Proofs.Tryz
section
open Go.RowKit
attribute [local go_sem] lp
theorem Mn(l:List Nd)(hl:0<l.length)(zv:l.length<=65536)(A A2:Option Addr)(c m c2:Nat)(view:Int)(w:World)(hr:Reads w w.heap.size 44 A l.length (lI l))(hs:P3 l[0].s)(hc:CB view): Calls prog 47 #[.agg #[.slice A l.length c,.slice A2 m c2,view]] w (oD (ou (oc l[0].s view)) w):=by
 obtain⟨s,uH⟩:∃s,s=l[0].s:=⟨_,rfl⟩;rw[<-uH]at hs⊢;obtain⟨ad,rfl,hnd0⟩:=hr.nd rfl hl;have xS:Hid (∀W,Below w.heap.size w W->∀q v,(lj s)[q]? =some v->W.cell? ((⟨ad.block,ad.off+1,none⟩:Addr).add q)=some v):=X6 (λW h q v hv=>by
  obtain⟨FT,e,pN⟩:=(hr.below h).nd rfl hl;injection e with e;subst e;have hx:=pN.cs q v (by rw[<-uH];exact hv);rw[lp]at hx;have ha:(⟨ad.block,ad.off+1,none⟩:Addr).add q=⟨ad.block,(ad.add (0*44)).off+(1+q),none⟩:=by
   have e0:(ad.add (0*44)).off=ad.off:=(by simp[Addr.add]);rw[e0];unfold Addr.add
   split
   ·simp_all
   ·simp;omega
  rw[ha];exact hx)
 obtain⟨x1,x2,x3,y,hv⟩:∃x1 x2 x3 y,ou (oc s view)= .tuple #[.agg #[.int .i64 x1,.int .i64 x2,.int .i64 x3],.bool y]:=⟨_,_,_,_,rfl⟩;rw[hv];have HF:Hid (∀W,Calls prog 95 #[.agg (lj s).toArray,view] W (oD (.tuple #[.agg #[x1,x2,x3],y]) W)):=X6 (λW=>by rw[<-hv];exact GC s view W hs hc);clear hv uH hr hs hnd0;obtain⟨n,hn⟩:∃n,n=l.length:=⟨_,rfl⟩;rw[<-hn]at hl zv⊢;clear hn;have q0:((n:Int) == 0)=false:=ZO.2 (by omega);have q1:(0:Int)<(n:Int):=by omega
 go_enter func47,ntmps47;go_upto_region 1 with(fail)
 obtain⟨gT,D4⟩:∃gT,gT=w.heap.size:=⟨_,rfl⟩;obtain⟨gu,rW⟩:∃gu,gu=w.heap.size+1:=⟨_,rfl⟩;have sI:Hid (lq ((w.alloc (.cells #[.slice (some ad) n c,.slice A2 m c2,view] 25)).alloc (.cells #[lx,lx,lx] 40)) gT 25 #[.slice (some ad) n c,.slice A2 m c2,view]/\oX gu 0 0 0 w ((w.alloc (.cells #[.slice (some ad) n c,.slice A2 m c2,view] 25)).alloc (.cells #[lx,lx,lx] 40))):=X6
  ⟨(lq.at_ _ _ _ D4).alloc _,lq.at_ _ _ _ (by rw[rW];simp),qx (qx (ZN _ _) _) _,by omega⟩
 obtain⟨w1,mW⟩:∃w1,w1=((w.alloc (.cells #[.slice (some ad) n c,.slice A2 m c2,view] 25)).alloc (.cells #[lx,lx,lx] 40)):=⟨_,rfl⟩;rw[<-mW]at sI⊢;have r9:Hid (gT≠gu):=X6 (by omega);first | rw[<-rW] | skip
 rw[<-D4];try rw[show gT+1=gu by omega]
 clear mW rW D4;have E0:oX gu 0 0 0 w w1.drew/\lq w1.drew gT 25 #[.slice (some ad) n c,.slice A2 m c2,view]:=⟨sI.2.lR (ZN _ _).drew,sI.1.below (ZN _ _).drew sI.1.lt⟩;refine mw (λb _ _ W=>(if b then oX gu x1 x2 x3 w W else oX gu 0 0 0 w W)/\lq W gT 25 #[.slice (some ad) n c,.slice A2 m c2,view]) 10 1000 100000 false true (by kernel_rfl) (by kernel_rfl) (by kernel_rfl) (E0) ?_;refine xN 0 ?_;iterate 4
  refine Ay (v:=?_) ?_ ?_;rotate_left
  ·intro d' u' W' lr;have q:=(show oX gu 0 0 0 w W'/\lq W' gT 25 #[.slice (some ad) n c,.slice A2 m c2,view]from lr);have y0:=q.2.get 0 rfl;have y2:=q.2.get 2 rfl;go_simp;rfl
  try simp only[Act.put,X8,YF,YE,YD,YA,YB]
 refine lW (i:=4) (v:= .agg (lj s).toArray) rfl (by kernel_rfl) (by kernel_rfl) (by kernel_rfl) (λ_ _ _ h=>h) (by rfl) (nX ?_) ?_
 ·refine mK (by rfl) 63 (.tmp 7) rfl (⟨ad.block,ad.off+1,none⟩) rfl (lj s) _ ?_ underlying63 rfl (by kernel_rfl);rintro W' ⟨b',d',u',lr⟩;exact xS.out W' (by cases b'<;>exact lr.1.b)
 try simp only[Act.put,X8,YF,YE,YD,YA,YB]
 refine xN 5 ?_;iterate 2
  refine Ay (v:=?_) ?_ ?_;rotate_left
  ·intro d' u' W' lr;have q:=(show oX gu 0 0 0 w W'/\lq W' gT 25 #[.slice (some ad) n c,.slice A2 m c2,view]from lr);have y0:=q.2.get 0 rfl;have y2:=q.2.get 2 rfl;go_simp;rfl
  try simp only[Act.put,X8,YF,YE,YD,YA,YB]
 refine lW (i:=7) (v:= .tuple #[.agg #[x1,x2,x3],.bool y]) rfl (by kernel_rfl) (by kernel_rfl) (by kernel_rfl) (λ_ _ _ h=>h) (by rfl) (nO (by rfl) (by kernel_rfl) _ _ ?_ (λd' u' W' lr=>(HF.out W').mono (λ_ _ h=>⟨h.1,(show oX gu 0 0 0 w W'/\lq W' gT 25 #[.slice (some ad) n c,.slice A2 m c2,view]from lr).1.lR h.2,(show oX gu 0 0 0 w W'/\lq W' gT 25 #[.slice (some ad) n c,.slice A2 m c2,view]from lr).2.below h.2 (show oX gu 0 0 0 w W'/\lq W' gT 25 #[.slice (some ad) n c,.slice A2 m c2,view]from lr).2.lt⟩))) ?_
 ·intro W';first | rfl | kernel_rfl
 try simp only[Act.put,X8,YF,YE,YD,YA,YB]
 refine xN 8 ?_;iterate 2
  refine Ay (v:=?_) ?_ ?_;rotate_left
  ·intro d' u' W' lr;have q:=(show oX gu 0 0 0 w W'/\lq W' gT 25 #[.slice (some ad) n c,.slice A2 m c2,view]from lr);have y0:=q.2.get 0 rfl;have y2:=q.2.get 2 rfl;go_simp;rfl
  try simp only[Act.put,X8,YF,YE,YD,YA,YB]
 refine mE (i:=10) (d:=true) (λW'=>(((W'.setCell ⟨gu,0,none⟩ (.int .i64 x1)).setCell ⟨gu,1,none⟩ (.int .i64 x2)).setCell ⟨gu,2,none⟩ (.int .i64 x3))) rfl (by kernel_rfl) (by rfl) (by rfl) (by kernel_rfl) rfl ?_ (λW' lr=>⟨(show oX gu 0 0 0 w W'/\lq W' gT 25 #[.slice (some ad) n c,.slice A2 m c2,view]from lr).1.fin x1 x2 x3,((lr.2.lQ r9.out _).lQ r9.out _).lQ r9.out _⟩) ?_
 ·intro W' lr;have q:=(show oX gu 0 0 0 w W'/\lq W' gT 25 #[.slice (some ad) n c,.slice A2 m c2,view]from lr);have y0:=q.2.get 0 rfl;have y2:=q.2.get 2 rfl;have z0:=q.1.us.get 0 rfl;have z1:=q.1.us.get 1 rfl;have z2:=q.1.us.get 2 rfl;have f0:=q.1.us.frozen 0;have f1:=q.1.us.frozen 1;have f2:=q.1.us.frozen 2;go_simp;try rfl
 try simp only[Act.put,X8,YF,YE,YD,YA,YB]
 refine Ce [11] ?_;refine Pv (y:=by intro b' d' u' W' lr;go_simp;rfl) (h:=?_);refine Ch ?_;refine F6 (λwS hS=>?_);have HS:=X6 hS;clear hS E0;go_wp2_with fail;exact ZQ (oJ rfl _ _ gu x1 x2 x3 _ rfl rfl (show oX gu x1 x2 x3 w wS from HS.1).us) rfl ⟨rfl,(show oX gu x1 x2 x3 w wS from HS.1).b⟩
theorem aaz(p:Nat->Bool)(m:Nat):oH p (m+1)=oH p m++[.bool (p m)]:=by simp[oH,Xb]
theorem aai(s:me)(w:World):(Instr.buildSlice 129 1 #[(0,.agg (lj s).toArray)]).run prog w= .ok (.slice w.heap.size 1 1) (w.alloc (.cells (lj s).toArray 63)):=by kernel_rfl
theorem SE{o:Oper}{a:Act}{w:World}{ops:Array Oper}{K:Act->World->Prop}{Q:Exit->Act->World->Prop}{E:Prop}(tZ:o.guard=none)(x:Operand)(ho:o.op= .buildSlice 129 1 #[(0,x)])(L:List Value)(hx:a.eval x= .agg L.toArray) (hb:∀W:World,(Instr.buildSlice 129 1 #[(0,.agg L.toArray)]).run prog W= .ok (.slice W.heap.size 1 1) (W.alloc (.cells L.toArray 63))) (h:K (a.put o.dst (.slice w.heap.size 1 1)) (w.alloc (.cells L.toArray 63))):if Region.wanted o (yielded ops a.tmps)=true then Oper.wp prog o a w K Q else E:=by
 have hw:Region.wanted o (yielded ops a.tmps)=true:=by simp[Region.wanted,tZ]
 rw[YP hw];unfold Oper.wp execOp;simp only[ho,aBS,Y6,UU,hx,PZ,hb,Yd,Yk];exact h
structure Vu(l:List Nd)(s:me)(ks:List Int)(got:List Cn)(u1:Int)(w w':World)(e:Ending):Prop where
 ex:∃Au cu Ab cb,e= .returned (.tuple #[.slice Au ks.length cu,.slice Ab ks.length cb])/\Reads w' w'.heap.size 3 Au ks.length (ow (λk=>uW (uh s u1 (ks.map (sD l)) got k)) ks.length)/\
  Reads w' w'.heap.size 1 Ab ks.length (oH (λk=>qZ (uh s u1 (ks.map (sD l)) got k)) ks.length)
 b:Below w.heap.size w w'
 fr:∀Au cu Ab cb,e= .returned (.tuple #[.slice Au ks.length cu,.slice Ab ks.length cb])->(∀ad,Au=some ad->w.heap.size<=ad.block)/\∀ad,Ab=some ad->w.heap.size<=ad.block
structure TQ(l:List Nd)(ks:List Int)(got:List Cn)(u1:Int)(w w':World)(e:Ending):Prop where
 ex:∃Au cu Ab cb,e= .returned (.tuple #[.slice Au ks.length cu,.slice Ab ks.length cb])/\Reads w' w'.heap.size 3 Au ks.length (ow (λk=>pE (sD l (om ks k)) u1 (qy got k)) ks.length)/\
  Reads w' w'.heap.size 1 Ab ks.length (oH (λk=>pU (sD l (om ks k)) u1 (qy got k)) ks.length)
 b:Below w.heap.size w w'
 fr:∀Au cu Ab cb,e= .returned (.tuple #[.slice Au ks.length cu,.slice Ab ks.length cb])->(∀ad,Au=some ad->w.heap.size<=ad.block)/\∀ad,Ab=some ad->w.heap.size<=ad.block
theorem R7(l:List Nd)(i:Nat)(hi:i<l.length)(zv:l.length<=65536)(A A2 Ak Ag:Option Addr)(c m c2 ck cg:Nat)(view u1 u2 u3:Int)(ks:List Int)(got:List Cn)(w:World) (hr:Reads w w.heap.size 44 A l.length (lI l)) (huv:∀x∈l,∃Au nu cu,x.s.uv= .slice Au nu cu) (kd:Int) (Cl:kd≠2\/kd=2) (Xi:l[i].s.kind=kd) (hk:Reads w w.heap.size 1 Ak ks.length (lY ks)) (pz:∀k∈ks,0<=k/\k<(l.length:Int)) (nF:ks.length<=100000) (hg:Reads w w.heap.size 4 Ag got.length (ly got)) (hc:CB u1) (hs:kd≠2->∀k∈ks,(sD l k).kind≠3->P3 (sD l k)) (Ph:kd=2->ks.length<=1000/\∀k∈ks,StX (sD l k)) (hx:∀x∈got,(0<=x.least/\x.least<=1099511627776)/\0<=x.lC/\x.lC<=1099511627776): Calls prog 48 #[.agg #[.slice A l.length c,.slice A2 m c2,view],.int .i64 (i:Int),.agg #[u1,u2,u3],.slice Ak ks.length ck,.slice Ag got.length cg] w λe w'=>(kd≠2->TQ l ks got u1 w w' e)/\(kd=2->Vu l l[i].s ks got u1 w w' e):=by
 have HKK:=X6 Cl;have HSF:=X6 Ph;have HGB:=X6 hx;obtain⟨si,hsi⟩:∃si,si=l[i].s:=⟨_,rfl⟩;have HSI:=X6 hsi;rw[<-hsi]at Xi⊢;clear hsi Cl Ph;have HR:=X6 hr;have B9:=X6 huv;have HK:=X6 hk;have HG:=X6 hg;have E8:=X6 pz;have HS:=X6 hs;have HX:Hid (∀q,(0<=(qy got q).least/\(qy got q).least<=1099511627776)/\0<=(qy got q).lC/\(qy got q).lC<=1099511627776):=X6 (λq=>by
  unfold qy;by_cases h:q<got.length
  ·rw[YH h];exact hx _ (YJ h)
  ·rw[ZG (by omega)];simp)
 have HC:=X6 hc;have Ct:Hid (∀W,Reads W w.heap.size 44 A l.length (lI l)->∃ad:Addr,A=some ad/\ad.block<w.heap.size/\W.cell? (ad.block,(ad.add (i*44)).off+1)=some (.int .u8 kd)):=X6 (λW h=>by obtain⟨ad,rfl,pN⟩:=h.nd rfl hi;have hz:=pN.lt;rw[lp]at hz;refine⟨ad,rfl,hz,?_⟩;rw[<-Xi,<-lp ad (i*44),HSI.out];exact pN.cs 0 _ rfl);clear hr huv hk hg pz hs hx hc Xi;obtain⟨n,mI⟩:∃n,n=ks.length:=⟨_,rfl⟩;rw[<-mI]at HK nF⊢;have HN:=X6 mI;clear mI;obtain⟨ll,hle⟩:∃ll,ll=l.length:=⟨_,rfl⟩;rw[<-hle]at HR E8 hi zv Ct⊢;have uJ:=X6 hle;clear hle;obtain⟨mg,Dd⟩:∃mg,mg=got.length:=⟨_,rfl⟩;rw[<-Dd]at HG⊢;have TH:=X6 Dd;clear Dd;have hi2:(i:Int)<(ll:Int):=by omega
 have hi3:(0:Int)<=(i:Int):=by omega
 go_enter func48,ntmps48;go_upto_region 1 with(fail)
 obtain⟨gT,D4⟩:∃gT,gT=w.heap.size:=⟨_,rfl⟩;obtain⟨gU,hgU⟩:∃gU,gU=w.heap.size+1:=⟨_,rfl⟩;have H2:Hid (lq ((w.alloc (.cells #[.slice A ll c,.slice A2 m c2,view] 25)).alloc (.cells #[u1,u2,u3] 40)) gT 25 #[.slice A ll c,.slice A2 m c2,view]/\lq ((w.alloc (.cells #[.slice A ll c,.slice A2 m c2,view] 25)).alloc (.cells #[u1,u2,u3] 40)) gU 40 #[u1,u2,u3]/\Below w.heap.size w ((w.alloc (.cells #[.slice A ll c,.slice A2 m c2,view] 25)).alloc (.cells #[u1,u2,u3] 40))):=X6
  ⟨(lq.at_ _ _ _ D4).alloc _,lq.at_ _ _ _ (by rw[hgU];simp),qx (qx (ZN _ _) _) _⟩
 obtain⟨w2,ph⟩:∃w2,w2=((w.alloc (.cells #[.slice A ll c,.slice A2 m c2,view] 25)).alloc (.cells #[u1,u2,u3] 40)):=⟨_,rfl⟩;rw[<-ph]at H2⊢;first | rw[<-hgU] | skip
 rw[<-D4];try rw[show gT+1=gU by omega]
 clear ph D4 hgU;have pD:Hid (∀W,Below w2.heap.size w2 W->W.cell? (gT,0)=some (.slice A ll c)/\W.cell? (gU,0)=u1):=X6 (λW h=>⟨(H2.1.below h H2.1.lt).get 0 rfl,(H2.2.1.below h H2.2.1.lt).get 0 rfl⟩);have vY:Hid (∀W,Below w2.heap.size w2 W->Reads W w.heap.size 44 A ll (lI l)/\Reads W w.heap.size 1 Ak n (lY ks)/\Reads W w.heap.size 4 Ag mg (ly got)):=X6 (λW h=>by have hb:=H2.2.2.trans (h.mono H2.2.2.size);exact⟨HR.below hb,HK.below hb,HG.below hb⟩);have hi0':(0:Int)<=(i:Int):=by omega
 have vp:Hid (w2.ownsRow w2.heap.size 63 43 (.slice none 0 0) 0 (pF ((ks.take 0).map (sD l)))):=X6 ⟨rfl,.inl ⟨rfl,rfl⟩⟩;go_wp2_with fail;go_loopw [12,13] (λv kv wr=>∃j:Nat,j<=n/\kv= .int .i64 j/\Hid (wr.ownsRow w2.heap.size 63 43 v j (pF ((ks.take j).map (sD l)))/\Below w2.heap.size w2 wr)) (λ_ kv _=>n-(intOf kv).toNat);case atStart=>exact⟨0,by omega,rfl,X6 ⟨vp.out,ZN _ _⟩⟩
 case round=>
  obtain⟨j,hj,rfl,HV⟩:=hrel;obtain⟨As,cs,hvs⟩:=lZ HV.1;subst hvs;clear vp;by_cases lN:j<n
  ·as_aux_lemma=>
   have q0:decide ((j:Int)<(n:Int))=true:=YC (by omega);have yF:decide (j<n)=true:=YC lN;have wQ:(j:Int)<(n:Int):=(by omega);have Ep:(0:Int)<=(j:Int):=(by omega);have wi:IntKind.i64.wrap ((j:Int)+1)=(j:Int)+1:=YG _ ⟨by omega,by omega⟩;have FU:j<ks.length:=(by rw[<-HN.out];exact lN);obtain⟨k,hk⟩:∃k,k=ks[j]:=⟨_,rfl⟩;have hkb:=E8.out k (by rw[hk];exact YJ FU);obtain⟨ak,uk,rfl,_,hxk,hck⟩:=(vY.out wr HV.2).2.1.at_ lN;have ek:uk= .int .i64 k:=(by rw[hk];simpa[lY,FU]using hxk.symm);subst ek;have QS:Hid (pF ((ks.take (j+1)).map (sD l))=pF ((ks.take j).map (sD l))++lj (sD l k)):=X6 (by rw[YU FU,ZJ,CJ,hk];simp[pF]);obtain⟨kk,O0⟩:∃kk:Nat,k=(kk:Int):=⟨k.toNat,by omega⟩;clear hxk hk;subst O0;have pz:kk<ll:=(by omega);have hkn2:(kk:Int)<(ll:Int):=(by omega);have hkn3:(0:Int)<=(kk:Int):=(by omega);have wB:kk<l.length:=(by rw[<-uJ.out];exact pz);obtain⟨s,uH⟩:∃s,s=l[kk].s:=⟨_,rfl⟩;have wZ:Hid (sD l (kk:Int)=s):=X6 (by rw[uH];unfold sD;rw[ZM,YH wB];rfl);have HO:Hid (∀u∈lj s,u.oneCell'=true):=X6 (by obtain⟨Au,nu,cu,e⟩:=B9.out _ (YJ wB);rw[uH];intro u hu;exact aDP.1 (me.one _ e) u (by simpa using hu));obtain⟨ad,hA,_⟩:=(vY.out wr HV.2).1.nd uJ.out wB;subst hA;have xS:Hid (∀W,Below w2.heap.size w2 W->∀q v,(lj s)[q]? =some v->W.cell? ((⟨ad.block,(ad.add (kk*44)).off+1,none⟩:Addr).add q)=some v):=X6 (λW h q v hv=>by
    obtain⟨FT,e,pN⟩:=(vY.out W h).1.nd uJ.out wB;injection e with e;subst e;have hx:=pN.cs q v (by rw[<-uH];exact hv);rw[lp]at hx;have ha:(⟨ad.block,(ad.add (kk*44)).off+1,none⟩:Addr).add q=⟨ad.block,(ad.add (kk*44)).off+(1+q),none⟩:=by
     unfold Addr.add
     split
     ·simp_all
     ·simp;omega
    rw[ha];exact hx)
   have OW:Hid (∀W,Below w2.heap.size w2 W->W.cell? (ak.add j)=(kk:Int)):=X6 (λW h=>by obtain⟨ak2,uk2,e1,_,hxk2,hck2⟩:=(vY.out W h).2.1.at_ lN;injection e1 with e1;subst e1;obtain⟨ak3,uk3,e3,_,hxk3,hck3⟩:=(vY.out wr HV.2).2.1.at_ lN;injection e3 with e3;subst e3;rw[hxk2]at hxk3;injection hxk3 with hxk3;rw[hck]at hck3;rw[hck2,hxk3,<-hck3]);clear uH hck;obtain⟨L,hL⟩:∃L,L=lj s:=⟨_,rfl⟩;have Fy:Hid (∀W:World,(Instr.buildSlice 129 1 #[(0,.agg L.toArray)]).run prog W= .ok (.slice W.heap.size 1 1) (W.alloc (.cells L.toArray 63))):=X6 (λW=>by rw[hL];exact aai s W);have HLL3:Hid (L.length=1*43):=X6 (by rw[hL,lL]);rw[wZ.out]at QS;rw[<-hL]at QS HO xS;clear hL wZ;have h9:j+1<=4294967296:=(by omega);go_upto_region 5 with(fail)
   have E0:Below w2.heap.size w2 wr.drew:=HV.2.drew;have HVD:Hid (wr.drew.ownsRow w2.heap.size 63 43 (.slice As j cs) j (pF ((ks.take j).map (sD l)))/\w2.heap.size<=wr.drew.heap.size):=X6 ⟨xu HV.1 (Kp.refl (λ_=>False) wr).drew (λ_ _ h=>h),HV.2.size⟩;refine wp_region_held_drew (S:=λW=>Below w2.heap.size w2 W) (by kernel_rfl) E0 (λhS=>?_);refine GZ 0 ?_;iterate 9
    refine OE (v:=?_) ?_ hS ?_;rotate_left
    ·intro W' lr;have y0:=(pD.out W' lr).1;have ck1:=OW.out W' lr;go_simp;rfl
    try simp only[Act.put,X8,YF,YE,YD,YA,YB]
   refine wpAnyH_take (i:=9) (v:= .agg L.toArray) rfl (by kernel_rfl) (by kernel_rfl) (by kernel_rfl) (λ_ _ _ h=>h) ?_ hS ?_
   ·exact mK (by rfl) 63 (.tmp 34) rfl ⟨ad.block,(ad.add (kk*44)).off+1,none⟩ rfl L _ (λW' lr=>xS.out W' lr) underlying63 rfl (by rw[HLL3.out];kernel_rfl)
   try simp only[Act.put,X8,YF,YE,YD,YA,YB]
   refine mV 10 (λK hK=>?_);refine SE rfl (.tmp 35) rfl L rfl Fy.out ?_;refine ky hK (hS.alloc hS.size _) λhS=>?_;clear hK Fy;refine mV 11 (λK hK=>?_);refine oS (m:=1) rfl _ _ rfl CI HVD.1 HVD.2 rfl L rfl rfl HLL3.out HO.out h9 (by omega) ?_;intro A3 c3 DI Di U1 R4 _;have hS5:Below w2.heap.size w2 DI:=U1 _ _ (X7 _) E0;refine ky hK hS5 λhS=>?_;clear hK;refine nk [12] ?_;refine tk hS (h:=?_);refine np ?_;refine nR ?_;clear U1 R4;have HS5:=X6 (And.intro Di hS5);clear hS E0 Di hS5;go_wp2_with fail;go_roundw;case rel=>exact⟨j+1,by omega,by go_num,X6 ⟨by rw[QS.out];exact HS5.1,HS5.2⟩⟩
   case measure=>simp[intOf]<;>omega
  ·as_aux_lemma=>
   have q0:decide ((j:Int)<(n:Int))=false:=X9 (by omega);have yF:decide (j<n)=false:=X9 lN;have hjn:j=n:=(by omega);rw[hjn]at HV;rw[hjn];clear hjn lN hj q0 yF;have q1:decide ((n:Int)<(n:Int))=false:=X9 (by omega);have q1':decide (n<n)=false:=X9 (by omega);have HTA:Hid ((ks.take n).map (sD l)=ks.map (sD l)):=X6 (by rw[HN.out,ZZ]);have HSR:Hid (∀W,Below wr.heap.size wr W->Reads W wr.heap.size 43 As n (pF (ks.map (sD l)))):=X6 (λW h=>by have h1:=Reads.mo HV.1;rw[HTA.out]at h1;exact h1.below h);obtain⟨ad,rfl,Lp,k1⟩:=Ct.out wr (vY.out wr HV.2).1;have y0:=(pD.out wr HV.2).1;rcases HKK.out with zH | rfl
   rotate_left
   ·as_aux_lemma=>
    have e12:((2:Int) == 2)=true:=(by decide);have Qj:Hid (∀W,Below wr.heap.size wr W->(W.cell? (gT,0)=some (.slice (some ad) ll c)/\W.cell? (gU,0)=u1)/\∀q v,(lj si)[q]? =some v->W.cell? ((⟨ad.block,(ad.add (i*44)).off+1,none⟩:Addr).add q)=some v):=X6 (λW h=>by
     have mr:=HV.2.trans (h.mono HV.2.size);refine⟨pD.out W mr,λq v hv=>?_⟩;have tQ:i<l.length:=(by rw[<-uJ.out];exact hi);obtain⟨FT,e,pN⟩:=(vY.out W mr).1.nd uJ.out tQ;injection e with e
     subst e;have hx:=pN.cs q v (by rw[<-HSI.out];exact hv);rw[lp]at hx;have ha:(⟨ad.block,(ad.add (i*44)).off+1,none⟩:Addr).add q=⟨ad.block,(ad.add (i*44)).off+(1+q),none⟩:=by
      unfold Addr.add
      split
      ·simp_all
      ·simp;omega
     rw[ha];exact hx)
    have HMA:Hid (∀W,Below wr.heap.size wr W->Calls prog 96 #[.agg (lj si).toArray,u1,.slice As n cs,.slice Ag mg cg] W λe w'=>BF si u1 (ks.map (sD l)) got W w' e):=X6 (λW hb=>by
     have mr:=HV.2.trans (hb.mono HV.2.size);have ph:w.heap.size<=W.heap.size:=(by have:=H2.2.2.size;have:=mr.size;omega);have XM:=(HSR.out W hb).more hb.size;have Me:=(vY.out W mr).2.2.more ph;have wF:(ks.map (sD l)).length=n:=(by rw[Ts,HN.out]);have h:=NR si u1 (ks.map (sD l)) got As Ag cs cg W (by rw[Ts];exact(HSF.out rfl).1) (by rw[wF];exact XM) (λs hs=>by
      obtain⟨k,hk,rfl⟩:=Z7.1 hs;have hb:=E8.out k hk;have nF:k.toNat<l.length:=(by rw[<-uJ.out];omega);have e:sD l k=l[k.toNat].s:=(by unfold sD;rw[YH nF];rfl);rw[e];exact B9.out _ (YJ nF)) (by rw[<-TH.out];exact Me) HC.out (λs hs=>by
      obtain⟨k,hk,rfl⟩:=Z7.1 hs;exact(HSF.out rfl).2 k hk) (λx hx=>(HGB.out x hx).2)
     rw[wF,<-TH.out]at h;exact h)
    go_upto_region 7 with(fail);clear y0 k1 e12;have E0:Below wr.heap.size wr wr.drew:=(ZN _ _).drew;refine wp_region_held_drew (S:=λW=>Below wr.heap.size wr W) (by kernel_rfl) E0 (λhS=>?_);refine GZ 0 ?_;iterate 5
     refine OE (v:=?_) ?_ hS ?_;rotate_left
     ·intro W' lr;have yy:=(Qj.out W' lr).1;have y0:=yy.1;have y1:=yy.2;go_simp;rfl
     try simp only[Act.put,X8,YF,YE,YD,YA,YB]
    refine wpAnyH_take (i:=5) (v:= .agg (lj si).toArray) rfl (by kernel_rfl) (by kernel_rfl) (by kernel_rfl) (λ_ _ _ h=>h) ?_ hS ?_
    ·exact mK (by rfl) 63 (.tmp 50) rfl ⟨ad.block,(ad.add (i*44)).off+1,none⟩ rfl (lj si) _ (λW' lr=>(Qj.out W' lr).2) underlying63 rfl (by kernel_rfl)
    try simp only[Act.put,X8,YF,YE,YD,YA,YB]
    refine GZ 6 ?_;iterate 4
     refine OE (v:=?_) ?_ hS ?_;rotate_left
     ·intro W' lr;have yy:=(Qj.out W' lr).1;have y0:=yy.1;have y1:=yy.2;go_simp;rfl
     try simp only[Act.put,X8,YF,YE,YD,YA,YB]
    refine mV 10 (λK hK=>?_);go_simp;go_at_call 96;refine(HMA.out _ hS).mono ?_;rintro e w7 ⟨⟨Au,cu,Ab,cb,rfl,Jq,Bj⟩,qk,hfr⟩;have HEN:Hid (Vu l si ks got u1 w w7 (.returned (.tuple #[.slice Au n cu,.slice Ab n cb]))):=X6 (by have wF:(ks.map (sD l)).length=ks.length:=Ts _;rw[wF]at Jq Bj;have h4:=H2.2.2.trans (HV.2.mono H2.2.2.size);have h5:=hS.trans (qk.mono hS.size);refine⟨⟨Au,cu,Ab,cb,by rw[HN.out],Jq,Bj⟩,h4.trans (h5.mono h4.size),λA3 c3 A4 c4 he=>?_⟩;have h2:=Ig he;have hf:=hfr _ _ _ _ rfl;have h6:=h4.size;have h7:=hS.size;exact⟨λad h=>YL (YL h6 h7) (hf.1 ad (by rw[h2.1,h])),λad h=>YL (YL h6 h7) (hf.2 ad (by rw[h2.2,h]))⟩);have hS7:Below wr.heap.size wr w7:=hS.trans (qk.mono hS.size);rw[show(ks.map (sD l)).length=n by rw[Ts,HN.out]];clear Jq Bj qk hfr;refine ky hK hS7 λhS=>?_;clear hK;refine GZ 11 ?_;iterate 4
     refine OE (v:=?_) ?_ hS ?_;rotate_left
     ·intro W' lr;go_simp;rfl
     try simp only[Act.put,X8,YF,YE,YD,YA,YB]
    refine nR ?_;clear hS E0;go_wp2_with fail;go_ret2;exact HEN.out
   have SL:=X6 (HS.out zH);have HK1:=X6 zH;have e12:((kd:Int) == 2)=false:=ZO.2 zH;clear zH;go_upto_region 8 with(fail)
   clear y0 k1 e12;obtain⟨w4,rfl⟩:∃w4,w4=wr:=⟨_,rfl⟩;go_wp2_with fail;go_loopw [14,15,16] (λov bv kv wr=>∃k:Nat,k<=n/\kv= .int .i64 k/\Hid (wr.ownsRow w4.heap.size 40 3 ov k (ow (λk=>pE (sD l (om ks k)) u1 (qy got k)) k)/\wr.ownsRow w4.heap.size 4 1 bv k (oH (λk=>pU (sD l (om ks k)) u1 (qy got k)) k)/\Below w4.heap.size w4 wr)) (λ_ _ kv _=>n-(intOf kv).toNat);case atStart=>exact⟨0,by omega,rfl,X6 ⟨⟨rfl,.inl ⟨rfl,rfl⟩⟩,⟨rfl,.inl ⟨rfl,rfl⟩⟩,ZN _ _⟩⟩
   case round=>
    obtain⟨k,hk,rfl,HW⟩:=hrel;obtain⟨Au,cu,Xl⟩:=lZ HW.1;obtain⟨Ab,cb,hvb⟩:=lZ HW.2.1;subst Xl;subst hvb;by_cases hl:k<n;rotate_left
    ·as_aux_lemma=>
     have q0:decide ((k:Int)<(n:Int))=false:=X9 (by omega);have yF:decide (k<n)=false:=X9 hl;have pz:k=n:=(by omega);have HEN:Hid (TQ l ks got u1 w wr (.returned (.tuple #[.slice Au k cu,.slice Ab k cb]))):=X6 (by
      rw[pz]at HW⊢;have h4:=H2.2.2.trans (HV.2.mono H2.2.2.size);refine⟨⟨Au,cu,Ab,cb,by rw[<-HN.out],?_,?_⟩,h4.trans (HW.2.2.mono h4.size),λA3 c3 A4 c4 he=>?_⟩
      ·rw[<-HN.out];exact Reads.mo HW.1
      ·rw[<-HN.out];exact Reads.mo HW.2.1
      ·have h2:=Ig he;exact⟨λad h=>YL h4.size (HW.1.lt ad.block (by rw[h2.1,h];rfl)).1,λad h=>YL h4.size (HW.2.1.lt ad.block (by rw[h2.2,h];rfl)).1⟩)
     clear pz;go_wp2_with fail;go_ret2;exact⟨λ_=>HEN.out,λh=>absurd h HK1.out⟩
    as_aux_lemma=>
    have q0:decide ((k:Int)<(n:Int))=true:=YC (by omega);have yF:decide (k<n)=true:=YC hl;have wQ:(k:Int)<(n:Int):=(by omega);have Ep:(0:Int)<=(k:Int):=(by omega);have wi:IntKind.i64.wrap ((k:Int)+1)=(k:Int)+1:=YG _ ⟨by omega,by omega⟩;have h9:k+1<=4294967296:=(by omega);have wB:k<ks.length:=(by rw[<-HN.out];exact hl);have hkt:om ks k=ks[k]:=(by unfold om;rw[YH wB];rfl);obtain⟨s,uH⟩:∃s,s=sD l (om ks k):=⟨_,rfl⟩;obtain⟨x,G8⟩:∃x,x=qy got k:=⟨_,rfl⟩;have hxb:=HX.out k;rw[<-G8]at hxb;have HSW:Hid (s.kind≠3->P3 s):=X6 (by rw[uH,hkt];exact SL.out (ks[k]) (YJ wB));have XR:Hid (ow (λk=>pE (sD l (om ks k)) u1 (qy got k)) (k+1)=ow (λk=>pE (sD l (om ks k)) u1 (qy got k)) k++[.int .i64 (pE s u1 x).1,.int .i64 (pE s u1 x).2.1,.int .i64 (pE s u1 x).2.2]/\oH (λk=>pU (sD l (om ks k)) u1 (qy got k)) (k+1)=oH (λk=>pU (sD l (om ks k)) u1 (qy got k)) k++[.bool (pU s u1 x)]):=X6 (by rw[xK,aaz,uH,G8];exact⟨rfl,rfl⟩);obtain⟨gS,cap,hvS,_,hgS⟩:=HV.1.form (by omega);obtain rfl:As=some ⟨gS,0,none⟩:=(by injection hvS);clear hvS;have xS:Hid (∀W,Below wr.heap.size wr W->W.cell? (gU,0)=u1/\∀q v,(lj s)[q]? =some v->W.cell? ((⟨gS,k*43,none⟩:Addr).add q)=some v):=X6 (λW h=>by
     have sY:=HW.2.2.trans (h.mono HW.2.2.size);have mr:=HV.2.trans (sY.mono HV.2.size);refine⟨(pD.out W mr).2,λq v hv=>?_⟩;obtain⟨ad,e,_,hc⟩:=(HSR.out W sY).2 (by omega);injection e with e
     subst e;have hq:=(YT.1 hv).1;rw[lL]at hq;have hml:k<(ks.map (sD l)).length:=(by rw[Ts];exact wB);have h1:=hc (k*43+q) v (by rw[N2 _ k q hml hq,aCG,<-hkt,<-uH];exact hv);have ha:(⟨gS,k*43,none⟩:Addr).add q=(⟨gS,0,none⟩:Addr).add (k*43+q):=(by rw[show(⟨gS,k*43,none⟩:Addr)=(⟨gS,0,none⟩:Addr).add (k*43) by unfold Addr.add;split<;>simp_all,mJ]);rw[ha];exact h1)
    have OW:Hid (∀W,Below wr.heap.size wr W->W.cell? (gS,k*43)=some (.int .u8 s.kind)/\W.cell? (gS,k*43+2)=some (.int .u8 s.float)):=X6 (λW h=>⟨(xS.out W h).2 0 _ rfl,(xS.out W h).2 2 _ rfl⟩);have RB:Hid (s.kind≠3->∀W,Calls prog 95 #[.agg (lj s).toArray,u1] W (oD (ou (oc s u1)) W)):=X6 (λh W=>GC s u1 W (HSW.out h) HC.out);have HFS:Hid (s.kind≠3->∀W,Calls prog 97 #[.agg (lj s).toArray,u1,x.least,x.lC] W (oD (ou (vA s u1 x.least x.lC)) W)):=X6 (λh W=>U2 s u1 _ _ W (HSW.out h) HC.out hxb.1 hxb.2);have HGX:Hid (∀h:k<mg,∀W,Below wr.heap.size wr W->∃ad:Addr,Ag=some ad/\W.cell? (ad.add (k*4))=x.least/\W.cell? (ad.block,(ad.add (k*4)).off+1)=some (.int .i64 x.lC)/\W.cell? (ad.block,(ad.add (k*4)).off+2)=some (.int .i64 x.ol)/\W.cell? (ad.block,(ad.add (k*4)).off+3)=some (.int .i64 x.og)):=X6 (λh W hb=>by have sY:=HW.2.2.trans (hb.mono HW.2.2.size);have mr:=HV.2.trans (sY.mono HV.2.size);have Je:k<got.length:=(by rw[<-TH.out];exact h);obtain⟨ad,e,_,h1,h2,h3,h4⟩:=(vY.out W mr).2.2.cn TH.out Je;have ex:x=got[k]:=(by rw[G8];unfold qy;rw[YH Je];rfl);rw[ex];exact⟨ad,e,h1,h2,h3,h4⟩);have HGN:Hid (¬k<mg->x.least=0/\x.lC=0):=X6 (λh=>by have Je:¬k<got.length:=(by rw[<-TH.out];exact h);rw[G8];unfold qy;rw[ZG (by omega)];exact⟨rfl,rfl⟩);clear uH G8 hkt hxb;go_upto_block 4 with(fail)
    obtain⟨gx,DR⟩:∃gx,gx=wr.heap.size:=⟨_,rfl⟩;have H6:Hid (oX gx 0 0 0 wr (wr.alloc (.cells #[lx,lx,lx] 40))):=X6 ⟨lq.at_ _ _ _ DR,qx (ZN _ _) _,by omega⟩;obtain⟨w6,Iz⟩:∃w6,w6=wr.alloc (.cells #[lx,lx,lx] 40):=⟨_,rfl⟩;rw[<-Iz]at H6⊢;rw[<-DR];have HGX0:=X6 DR;clear Iz DR;obtain⟨z1,z2,z3,hzz⟩:∃z1 z2 z3,pE s u1 x=(z1,z2,z3):=⟨_,_,_,rfl⟩;obtain⟨zb,hzb⟩:∃zb,pU s u1 x=zb:=⟨_,rfl⟩;rw[hzz,hzb]at XR;have HZ:=X6 (And.intro hzz hzb);clear hzz hzb;go_cut [18] (λcv wx=>cv= .bool zb/\Hid (oX gx z1 z2 z3 wr wx));case first=>
     as_aux_lemma=>
     have ck:=OW.out w6 H6.b;by_cases h3:s.kind=3
     ·have e3:(s.kind == 3)=true:=ZR.2 h3;have GI:Hid (z1=0/\z2=0/\z3=0/\zb=false):=X6 (by
       have h1:=HZ.1;have h2:=HZ.2;unfold pE at h1;unfold pU at h2;rw[YP h3]at h1 h2;injection h1 with h1 KW
       injection KW with KW WQ;exact⟨h1.symm,KW.symm,WQ.symm,h2.symm⟩)
      clear h3;go_wp2_with fail;go_meet;exact⟨by rw[GI.2.2.2],X6 (by rw[GI.1,GI.2.1,GI.2.2.1];exact H6.out)⟩
     ·have e3:(s.kind == 3)=false:=ZO.2 h3;have JO:=X6 (RB.out h3);have Eu:=X6 (HFS.out h3);by_cases hf:s.float=0
      ·have ef:(s.float == 0)=true:=ZR.2 hf;have ef2:(s.float != 0)=false:=(by rw[bne,ef];rfl);obtain⟨x1,x2,x3,y,hv,zH,Ff⟩:∃x1 x2 x3 y,ou (oc s u1)= .tuple #[.agg #[.int .i64 x1,.int .i64 x2,.int .i64 x3],.bool y]/\pE s u1 x=(x1,x2,x3)/\pU s u1 x=y:=by
        refine⟨_,_,_,_,rfl,?_,?_⟩
        ·unfold pE Bu;rw[YO h3,YO h3,YO (by simp[hf])];rfl
        ·unfold pU Bu;rw[YO h3,YO h3,YO (by simp[hf])]
       have GI:Hid ((z1=x1/\z2=x2/\z3=x3)/\zb=y):=X6 (by
        have h1:=HZ.1.symm.trans zH;injection h1 with h1 KW
        injection KW with KW WQ;exact⟨⟨h1,KW,WQ⟩,HZ.2.symm.trans Ff⟩)
       rw[hv]at JO;have HF:=X6 JO.out;clear h3 hf hv zH Ff JO Eu;go_upto_region 15 with(fail)
       have E0:oX gx 0 0 0 wr w6.drew:=H6.lR (ZN _ _).drew;refine mw (λb _ _ W=>(if b then oX gx x1 x2 x3 wr W else oX gx 0 0 0 wr W)) 10 1000 100000 false true (by kernel_rfl) (by kernel_rfl) (by kernel_rfl) (E0) ?_;refine xN 0 ?_;iterate 3
        refine Ay (v:=?_) ?_ ?_;rotate_left
        ·intro d' u' W' lr;have q:=(show oX gx 0 0 0 wr W' from lr);have ck:=OW.out W' q.b;have y1:=(xS.out W' q.b).1;go_simp;rfl
        try simp only[Act.put,X8,YF,YE,YD,YA,YB]
       refine lW (i:=3) (v:= .agg (lj s).toArray) rfl (by kernel_rfl) (by kernel_rfl) (by kernel_rfl) (λ_ _ _ h=>h) (by rfl) (nX ?_) ?_
       ·refine mK (by rfl) 63 (.tmp 68) rfl (⟨gS,k*43,none⟩) rfl (lj s) _ ?_ underlying63 rfl (by kernel_rfl);rintro W' ⟨b',d',u',lr⟩;exact(xS.out W' (by cases b'<;>exact(show oX _ _ _ _ wr W' from lr).b)).2
       try simp only[Act.put,X8,YF,YE,YD,YA,YB]
       refine xN 4 ?_;iterate 2
        refine Ay (v:=?_) ?_ ?_;rotate_left
        ·intro d' u' W' lr;have q:=(show oX gx 0 0 0 wr W' from lr);have ck:=OW.out W' q.b;have y1:=(xS.out W' q.b).1;go_simp;rfl
        try simp only[Act.put,X8,YF,YE,YD,YA,YB]
       refine lW (i:=6) (v:= .tuple #[.agg #[x1,x2,x3],.bool y]) rfl (by kernel_rfl) (by kernel_rfl) (by kernel_rfl) (λ_ _ _ h=>h) (by rfl) (nO (by rfl) (by kernel_rfl) _ _ ?_ (λd' u' W' lr=>(HF.out W').mono (λ_ _ h=>⟨h.1,(show oX gx 0 0 0 wr W' from lr).lR h.2⟩))) ?_
       ·intro W';first | rfl | kernel_rfl
       try simp only[Act.put,X8,YF,YE,YD,YA,YB]
       refine xN 7 ?_;iterate 2
        refine Ay (v:=?_) ?_ ?_;rotate_left
        ·intro d' u' W' lr;have q:=(show oX gx 0 0 0 wr W' from lr);have ck:=OW.out W' q.b;have y1:=(xS.out W' q.b).1;go_simp;rfl
        try simp only[Act.put,X8,YF,YE,YD,YA,YB]
       refine Ce [9] ?_;refine Pv (y:=by intro b' d' u' W' lr;go_simp;rfl) (h:=?_);refine Ch ?_;refine mE (i:=10) (d:=true) (λW'=>(((W'.setCell ⟨gx,0,none⟩ (.int .i64 x1)).setCell ⟨gx,1,none⟩ (.int .i64 x2)).setCell ⟨gx,2,none⟩ (.int .i64 x3))) rfl (by kernel_rfl) (by rfl) (by rfl) (by kernel_rfl) rfl ?_ (λW' lr=>(show oX gx 0 0 0 wr W' from lr).fin x1 x2 x3) ?_
       ·intro W' lr;have q:=(show oX gx 0 0 0 wr W' from lr);have ck:=OW.out W' q.b;have y1:=(xS.out W' q.b).1;have z0:=q.us.get 0 rfl;have z1:=q.us.get 1 rfl;have z2:=q.us.get 2 rfl;have f0:=q.us.frozen 0;have f1:=q.us.frozen 1;have f2:=q.us.frozen 2;go_simp;try rfl
       try simp only[Act.put,X8,YF,YE,YD,YA,YB]
       refine Ce [11] ?_;refine Pv (y:=by intro b' d' u' W' lr;go_simp;rfl) (h:=?_);refine Ch ?_;refine F6 (λwS hS=>?_);have HS:=X6 (show oX gx x1 x2 x3 wr wS from hS);clear hS E0;go_wp2_with fail;go_meet;exact⟨by rw[GI.2],X6 (by rw[GI.1.1,GI.1.2.1,GI.1.2.2];exact HS.out)⟩
      ·have ef:(s.float == 0)=false:=ZO.2 hf;have ef2:(s.float != 0)=true:=(by rw[bne,ef];rfl);obtain⟨x1,x2,x3,y,hv,zH,Ff⟩:∃x1 x2 x3 y,ou (vA s u1 x.least x.lC)= .tuple #[.agg #[.int .i64 x1,.int .i64 x2,.int .i64 x3],.bool y]/\pE s u1 x=(x1,x2,x3)/\pU s u1 x=y:=by
        refine⟨_,_,_,_,rfl,?_,?_⟩
        ·unfold pE Bu;rw[YO h3,YO h3,YP hf];rfl
        ·unfold pU Bu;rw[YO h3,YO h3,YP hf]
       have GI:Hid ((z1=x1/\z2=x2/\z3=x3)/\zb=y):=X6 (by
        have h1:=HZ.1.symm.trans zH;injection h1 with h1 KW
        injection KW with KW WQ;exact⟨⟨h1,KW,WQ⟩,HZ.2.symm.trans Ff⟩)
       rw[hv]at Eu;have HF:=X6 Eu.out;clear h3 hf hv zH Ff JO Eu;go_upto_region 19 with(fail)
       obtain⟨gc,BR⟩:∃gc,gc=w6.heap.size:=⟨_,rfl⟩;have Kz:Hid (lq (w6.alloc (.cells #[lx,lx,lx,lx] 38)) gc 38 #[lx,lx,lx,lx]/\oX gx 0 0 0 wr (w6.alloc (.cells #[lx,lx,lx,lx] 38))):=X6 ⟨lq.at_ _ _ _ BR,H6.lR (qx (ZN _ _) _)⟩;have r9:Hid (gc≠gx):=X6 (by have:=H6.us.lt;omega);have hgcl:wr.heap.size<=gc:=(by have:=H6.b.size;omega);obtain⟨w7,hw7⟩:∃w7,w7=w6.alloc (.cells #[lx,lx,lx,lx] 38):=⟨_,rfl⟩;rw[<-hw7]at Kz⊢;rw[<-BR];clear hw7 BR ck;go_upto_if 92 with(fail);go_cut [] (λwx=>∃o1 o2,Hid (lq wx gc 38 #[x.least,x.lC,.int .i64 o1,.int .i64 o2]/\oX gx 0 0 0 wr wx));case first=>
        have y0:=Kz.1.get 0 rfl;have y1:=Kz.1.get 1 rfl;have y2:=Kz.1.get 2 rfl;have y3:=Kz.1.get 3 rfl;have f0:=Kz.1.frozen 0;have f1:=Kz.1.frozen 1;have f2:=Kz.1.frozen 2;have f3:=Kz.1.frozen 3;by_cases hm:k<mg
        ·have d:decide ((k:Int)<(mg:Int))=true:=YC (by omega);have d':decide (k<mg)=true:=YC hm;have Pk:(k:Int)<(mg:Int):=(by omega);obtain⟨ag,hag,g0,g1,g2,g3⟩:=HGX.out hm w7 Kz.2.b;subst hag;go_wp2_with fail;go_meet;exact⟨x.ol,x.og,X6 ⟨by have h:=(((Kz.1.lA 0 x.least).lA 1 x.lC).lA 2 x.ol).lA 3 x.og;simpa using h,⟨(((Kz.2.us.lQ r9.symm _).lQ r9.symm _).lQ r9.symm _).lQ r9.symm _,(((Kz.2.b.setCell (p:=(gc,0)) hgcl _).setCell (p:=(gc,1)) hgcl _).setCell (p:=(gc,2)) hgcl _).setCell (p:=(gc,3)) hgcl _,Kz.2.lo⟩⟩⟩
        ·have d:decide ((k:Int)<(mg:Int))=false:=X9 (by omega);have d':decide (k<mg)=false:=X9 hm;have Ng:=X6 (HGN.out hm);go_wp2_with fail;go_meet;exact⟨0,0,X6 ⟨by rw[Ng.1,Ng.2];exact Kz.1,Kz.2⟩⟩
       case rest=>
       obtain⟨o1,o2,PW⟩:=hcut;obtain⟨w8,rfl⟩:∃w8,w8=wc:=⟨_,rfl⟩;clear Kz;go_upto_region 21 with(fail);have E0:oX gx 0 0 0 wr w8.drew/\lq w8.drew gc 38 #[x.least,x.lC,o1,o2]:=⟨PW.2.lR (ZN _ _).drew,PW.1.below (ZN _ _).drew PW.1.lt⟩;refine mw (λb _ _ W=>(if b then oX gx x1 x2 x3 wr W else oX gx 0 0 0 wr W)/\lq W gc 38 #[x.least,x.lC,o1,o2]) 14 1000 100000 false true (by kernel_rfl) (by kernel_rfl) (by kernel_rfl) (E0) ?_;refine xN 0 ?_;iterate 3
        refine Ay (v:=?_) ?_ ?_;rotate_left
        ·intro d' u' W' lr;have q:=(show oX gx 0 0 0 wr W'/\lq W' gc 38 #[x.least,x.lC,o1,o2]from lr);have ck:=OW.out W' q.1.b;have y1:=(xS.out W' q.1.b).1;have e0:=q.2.get 0 rfl;have e1:=q.2.get 1 rfl;go_simp;rfl
        try simp only[Act.put,X8,YF,YE,YD,YA,YB]
       refine lW (i:=3) (v:= .agg (lj s).toArray) rfl (by kernel_rfl) (by kernel_rfl) (by kernel_rfl) (λ_ _ _ h=>h) (by rfl) (nX ?_) ?_
       ·refine mK (by rfl) 63 (.tmp 100) rfl (⟨gS,k*43,none⟩) rfl (lj s) _ ?_ underlying63 rfl (by kernel_rfl);rintro W' ⟨b',d',u',lr⟩;exact(xS.out W' (by cases b'<;>exact lr.1.b)).2
       try simp only[Act.put,X8,YF,YE,YD,YA,YB]
       refine xN 4 ?_;iterate 6
        refine Ay (v:=?_) ?_ ?_;rotate_left
        ·intro d' u' W' lr;have q:=(show oX gx 0 0 0 wr W'/\lq W' gc 38 #[x.least,x.lC,o1,o2]from lr);have ck:=OW.out W' q.1.b;have y1:=(xS.out W' q.1.b).1;have e0:=q.2.get 0 rfl;have e1:=q.2.get 1 rfl;go_simp;rfl
        try simp only[Act.put,X8,YF,YE,YD,YA,YB]
       refine lW (i:=10) (v:= .tuple #[.agg #[x1,x2,x3],.bool y]) rfl (by kernel_rfl) (by kernel_rfl) (by kernel_rfl) (λ_ _ _ h=>h) (by rfl) (nO (by rfl) (by kernel_rfl) _ _ ?_ (λd' u' W' lr=>(HF.out W').mono (λ_ _ h=>⟨h.1,(show oX gx 0 0 0 wr W'/\lq W' gc 38 #[x.least,x.lC,o1,o2]from lr).1.lR h.2,(show oX gx 0 0 0 wr W'/\lq W' gc 38 #[x.least,x.lC,o1,o2]from lr).2.below h.2 (show oX gx 0 0 0 wr W'/\lq W' gc 38 #[x.least,x.lC,o1,o2]from lr).2.lt⟩))) ?_
       ·intro W';first | rfl | kernel_rfl
       try simp only[Act.put,X8,YF,YE,YD,YA,YB]
       refine xN 11 ?_;iterate 2
        refine Ay (v:=?_) ?_ ?_;rotate_left
        ·intro d' u' W' lr;have q:=(show oX gx 0 0 0 wr W'/\lq W' gc 38 #[x.least,x.lC,o1,o2]from lr);have ck:=OW.out W' q.1.b;have y1:=(xS.out W' q.1.b).1;have e0:=q.2.get 0 rfl;have e1:=q.2.get 1 rfl;go_simp;rfl
        try simp only[Act.put,X8,YF,YE,YD,YA,YB]
       refine Ce [13] ?_;refine Pv (y:=by intro b' d' u' W' lr;go_simp;rfl) (h:=?_);refine Ch ?_;refine mE (i:=14) (d:=true) (λW'=>(((W'.setCell ⟨gx,0,none⟩ (.int .i64 x1)).setCell ⟨gx,1,none⟩ (.int .i64 x2)).setCell ⟨gx,2,none⟩ (.int .i64 x3))) rfl (by kernel_rfl) (by rfl) (by rfl) (by kernel_rfl) rfl ?_ (λW' lr=>⟨(show oX gx 0 0 0 wr W'/\lq W' gc 38 #[x.least,x.lC,o1,o2]from lr).1.fin x1 x2 x3,(((show oX gx 0 0 0 wr W'/\lq W' gc 38 #[x.least,x.lC,o1,o2]from lr).2.lQ r9.out _).lQ r9.out _).lQ r9.out _⟩) ?_
       ·intro W' lr;have q:=(show oX gx 0 0 0 wr W'/\lq W' gc 38 #[x.least,x.lC,o1,o2]from lr);have ck:=OW.out W' q.1.b;have y1:=(xS.out W' q.1.b).1;have e0:=q.2.get 0 rfl;have e1:=q.2.get 1 rfl;have z0:=q.1.us.get 0 rfl;have z1:=q.1.us.get 1 rfl;have z2:=q.1.us.get 2 rfl;have f0:=q.1.us.frozen 0;have f1:=q.1.us.frozen 1;have f2:=q.1.us.frozen 2;go_simp;try rfl
       try simp only[Act.put,X8,YF,YE,YD,YA,YB]
       refine Ce [15] ?_;refine Pv (y:=by intro b' d' u' W' lr;go_simp;rfl) (h:=?_);refine Ch ?_;refine F6 (λwS hS=>?_);have HS:=X6 (show oX gx x1 x2 x3 wr wS from hS.1);clear hS E0;go_wp2_with fail;go_meet;exact⟨by rw[GI.2],X6 (by rw[GI.1.1,GI.1.2.1,GI.1.2.2];exact HS.out)⟩
    case rest=>
    obtain⟨rfl,HU⟩:=hcut;as_aux_lemma=>
    obtain⟨wx,rfl⟩:∃wx,wx=wc:=⟨_,rfl⟩;have u0:=HU.us.get 0 rfl;have u1':=HU.us.get 1 rfl;have u2':=HU.us.get 2 rfl;have S7:Hid ((wx.ownsRow w4.heap.size 40 3 (.slice Au k cu) k (ow (λk=>pE (sD l (om ks k)) u1 (qy got k)) k)/\wx.ownsRow w4.heap.size 4 1 (.slice Ab k cb) k (oH (λk=>pU (sD l (om ks k)) u1 (qy got k)) k)/\Below w4.heap.size w4 wx)/\w4.heap.size<=wx.heap.size):=X6 (by have hb:=HW.2.2.trans (HU.b.mono HW.2.2.size);exact⟨⟨xu HW.1 (Kp.nD HU.b (λ_=>False)) (λ_ _ h=>h),xu HW.2.1 (Kp.nD HU.b (λ_=>False)) (λ_ _ h=>h),hb⟩,hb.size⟩);clear HU;go_upto_region 23 with(at_builtin;refine lM (m:=1) rfl _ _ rfl vt S7.1.1 S7.2 rfl [.int .i64 z1,.int .i64 z2,.int .i64 z3] rfl rfl (by simp[Value.oneCell']) h9 (by omega) ?_;intro A1 c1 sy tj BM DW _;have qH:Hid (sy.ownsRow w4.heap.size 40 3 (.slice A1 (k+1) c1) (k+1) (ow (λk=>pE (sD l (om ks k)) u1 (qy got k)) (k+1))/\sy.ownsRow w4.heap.size 4 1 (.slice Ab k cb) k (oH (λk=>pU (sD l (om ks k)) u1 (qy got k)) k)/\Below w4.heap.size w4 sy/\w4.heap.size<=sy.heap.size):=X6 ⟨by rw[XR.1];exact tj,S7.1.2.1.kept DW (uj S7.1.2.1 S7.1.1 (by decide)),BM _ _ (X7 _) S7.1.2.2,(BM _ _ (X7 _) S7.1.2.2).size⟩;clear tj BM DW);clear u0 u1' u2';go_wp2_with (at_builtin;refine lM (m:=1) rfl _ _ rfl By qH.2.1 qH.2.2.2 rfl [.bool zb] rfl rfl (by simp[Value.oneCell']) h9 (by omega) ?_;intro A2 c2 xM tw DQ Ej _;have TA:Hid (xM.ownsRow w4.heap.size 40 3 (.slice A1 (k+1) c1) (k+1) (ow (λk=>pE (sD l (om ks k)) u1 (qy got k)) (k+1))/\xM.ownsRow w4.heap.size 4 1 (.slice A2 (k+1) c2) (k+1) (oH (λk=>pU (sD l (om ks k)) u1 (qy got k)) (k+1))/\Below w4.heap.size w4 xM):=X6 ⟨qH.1.kept Ej (uj qH.1 qH.2.1 (by decide)),by rw[XR.2];exact tw,DQ _ _ (X7 _) qH.2.2.1⟩;clear tw DQ Ej);go_roundw;case rel=>exact⟨k+1,by omega,by go_num,TA⟩
    case measure=>simp[intOf]<;>omega
end
section
structure KidG(s:me)(ki u1 least:Int)(t:Int×Int×Int)(b:Bool):Prop where
 w:0<=t.1/\t.1<=1099511627776
 l: -1099511627776<=t.2.1/\t.2.1<=1099511627776
 r: -1099511627776<=t.2.2/\t.2.2<=1099511627776
 text:s.kind=3->t=(0,0,0)
 Iw:s.kind≠3->ki=1->s.float=0->b=false->t.2.1+mS s+t.1+t.2.2=u1
 float:s.kind≠3->ki≠2->s.float≠0->b=false->s.w.k=0->s.my.k=0->t.1<=max (u1-mS s-t.2.1-t.2.2) (max least 0)
theorem tA(a:Int): -1099511627776<=lU a/\lU a<=1099511627776:=by unfold lU;repeat' split;all_goals omega
theorem DK{a:Int}(h:mG a=false):lU a=a:=by
 unfold mG at h;simp at h;unfold lU
 repeat' split
 all_goals omega
theorem Bl{a:Int}(h:0<=a):0<=lU a:=by unfold lU;repeat' split;all_goals omega
theorem tM(s:me)(c v:Int):0<=lF s c v:=by unfold lF;dsimp only;exact Int.le_max_right ..
theorem Gp(s:me)(c:Int):0<=(oc s c).1:=by
 unfold oc DS;dsimp only;generalize hv:(bif (mj s.w c).2 then(mj s.w c).1 else max (c-mS s-(mj s.m3 c).1-(mj s.m1 c).1) 0)=v;have h:=tM s c v;cases h1:((mj s.w c).2 || lF s c v != v)
 ·simp only[aCF];rw[aBR]at h1;have h2:lF s c v=v:=by simpa using h1.2
  omega
 ·simpa only[aCU]using h
theorem QJ(s:me)(c:Int):(oc s c).2.1+mS s+(oc s c).1+(oc s c).2.2=c:=by
 unfold oc DS;dsimp only;generalize (bif (mj s.w c).2 then(mj s.w c).1 else max (c-mS s-(mj s.m3 c).1-(mj s.m1 c).1) 0)=v;cases((mj s.w c).2 || lF s c v != v)
 ·simp only[aCF];omega
 ·simp only[aCU];omega
theorem Kl{t:Int×Int×Int}(h:Kg t=false):Kh t=t:=by unfold Kg at h;rw[aBR,aBR]at h;unfold Kh;rw[DK h.1.1,DK h.1.2,DK h.2]
theorem shrN_le(s:me)(c least lC:Int)(hw:s.w.k=0)(hm:s.my.k=0):(vA s c least lC).1<=max (c-mS s-(vA s c least lC).2.1-(vA s c least lC).2.2) (max least 0):=by
 have h1:(mj s.w c).2=false:=by unfold mj;rw[YO (by omega),YO (by omega)]
 have h2:(mj s.my c).2=false:=by unfold mj;rw[YO (by omega),YO (by omega)]
 unfold vA;dsimp only;rw[h1];unfold lF;rw[h2];dsimp only;simp only[Y9,BT]
 split<;>omega
theorem Us(s:me)(ki c:Int)(x:Cn):KidG s ki c x.least (pE s c x) (pU s c x):=by
 unfold pE pU;by_cases h3:s.kind=3
 ·rw[YP h3,YP h3];exact⟨⟨by decide,by decide⟩,⟨by decide,by decide⟩,⟨by decide,by decide⟩,λ_=>rfl,λh=>absurd h3 h,λh=>absurd h3 h⟩
 ·rw[YO h3,YO h3];refine⟨⟨Bl ?_,(tA _).2⟩,tA _,tA _,λh=>absurd h h3,λ_ _ hf hb=>?_,λ_ _ hf hb hw hm=>?_⟩
  ·unfold Bu;rw[YO h3]
   split
   ·exact tM ..
   ·exact Gp ..
  ·rw[Kl hb];unfold Bu;rw[YO h3,YO (by omega)];exact QJ s c
  ·rw[Kl hb];unfold Bu;rw[YO h3,YP hf];exact shrN_le s c _ _ hw hm
structure Vt(x:It):Prop where
 w:0<=x.width
 g:0<=x.guess
theorem Zw{grows:Bool}{M:Nat->It}(ks:List Nat)(h:∀k,Vt (M k))(k:Nat):Vt (uB grows M ks k):=by
 unfold uB
 split
 ·unfold qJ
  split
  ·exact⟨(h k).g,(h k).g⟩
  ·exact⟨(h k).w,(h k).g⟩
 ·exact h k
theorem Zd{room:Int}{grows:Bool}{M:Nat->It}(ks:List Nat)(h:∀k,Vt (M k))(k:Nat):Vt (nI room grows M ks k):=by
 have ha:∀k,Vt (qo M (lX M ks) (vN room M ks) grows k):=λk=>by
  unfold qo
  split
  ·exact⟨(h k).w,(h k).g⟩
  ·exact h k
 unfold nI tq
 split
 ·unfold xo
  split
  ·exact⟨tM ..,(ha k).g⟩
  ·exact ha k
 ·exact ha k
theorem Ws:∀(n:Nat) (room:Int) (grows:Bool) (M:Nat->It) (ks:List Nat),(∀k,Vt (M k))->∀k,Vt (pR n room grows M ks k)
 | 0,_,_,_,_,h=>h
 | n+1,room,grows,M,ks,h=>by
  intro k;rw[pR]
  split
  ·exact h k
  ·exact Ws n room grows _ ks (Zd ks h) k
theorem fit_p(c:Int){M:Nat->It}(ks:List Nat)(h:∀k,Vt (M k))(k:Nat):Vt (zY c M ks k):=Ws _ _ _ _ _ (Zw ks h) k
theorem Xq(c:Int):∀(rows:List (List Nat)) (M:Nat->It),(∀k,Vt (M k))->∀k,Vt (sB c M rows k)
 | [],_,h=>h
 | r::t,M,h=>Xq c t _ (fit_p c r h)
theorem mains_p(s:me)(c:Int)(l:List me)(got:List Cn)(k:Nat):0<=(uh s c l got k).width:=
 (Xq c _ _ (λk=>⟨aC1 _,tM ..⟩) k).w
theorem QE(s s2:me)(c c2 least:Int)(l:List me)(got:List Cn)(k:Nat)(h3:s2.kind≠3):KidG s2 2 c2 least (uW (uh s c l got k)) (qZ (uh s c l got k)):=by
 refine⟨⟨Bl ?_,(tA _).2⟩,tA _,tA _,λh=>absurd h h3,λ_ h=>absurd h (by decide),λ_ h=>absurd rfl h⟩;have:=mains_p s c l got k;unfold VY
 repeat' split
 all_goals omega
end
end Go.Proofs.YtjhingednpjogaaGreat
