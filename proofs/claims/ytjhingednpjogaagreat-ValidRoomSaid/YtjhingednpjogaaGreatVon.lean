/- Lemmas for ValidRoom; laid together by a program. -/
import Derived.Test.YtjhingednpjogaaGreatFe
set_option linter.all false
set_option maxRecDepth 100000
set_option maxHeartbeats 4000000
open Go.RowKit
namespace Go.Proofs.YtjhingednpjogaaGreat
open Go.Proofs.Tryz
section
attribute [local go_sem] lp Oper.semAt_some
section
variable{ga gN gC gU gH gF gK:Nat}{v uw:Int}{w:World}
theorem TM(w:World):Calls prog 24 #[.pointer ga] w λe w'=>e= .returned (.func (.func 41) #[] #[.pointer w.heap.size])/\w.alloc (.cells #[.pointer ga] 104)=w':=by go_enter func24,ntmps24;go_wp2_with fail;go_ret;exact⟨rfl,rfl⟩
theorem P6(n:Nat)(Oy:1<=n)(hv:VwV v)(Et:CB uw)(Za:v=uw->v=100)(bu n0:Nat)(w0:World)(hbu:lq w0 bu 104 #[.pointer ga])(q:sj ga gN gC gU gH gF gK v uw w0): SeqStopsK Fence.wide n prog 41 #[.pointer bu] (λb:Bool=> #[.int .i64 0,.bool b]) (Below n0) (λxs=>xs=[v == uw]) (λpre=>pre=[v == uw]) 1 w0:=by
 intro l J Jx W hW hJ hJx hY h0;refine callsIn_of_wp func41 rfl trivial ?_ rfl;simp only[ntmps41,Z1,ZA,aBD,Nat.reduceAdd,Nat.reduceSub,Array.replicate_succ,Array.replicate_zero,List.push_toArray,List.append_toArray,aBZ,aCI];have b0:=(hbu.below hW hbu.lt).c1;have bl:=(hbu.below hW hbu.lt).lt;have HQ:Hid (sj ga gN gC gU gH gF gK v uw W):=X6 (q.below hW);have a0:=HQ.a.get 0 rfl;have al:=HQ.a.lt;have HH:=X6 (C9 hv Et Za HQ.out);have H0:=X6 h0;clear hW hbu q h0 hv Et Za
 gi_wp2
 refine wpIn_loop_rounds 2 ?_;rw[roundsIn_succ]
 gi_wp2_with (refine⟨trivial,?_⟩;gi_at_call 25;refine(callsIn_wide.2 HH.out).mono ?_;rintro e W2 ⟨rfl,mr⟩)
 have JN:=X6 (hJ _ _ _ none H0.out (grown0 mr) (λr e=>by cases e));obtain⟨fn,tmps,assign,body,hy,hR⟩:=hY [] (v == uw) _ JN.out (by simp);obtain⟨B,hB⟩:∃B,B=(v == uw):=⟨_,rfl⟩;rw[<-hB]at hy hR⊢;have JR:=X6 hB;have JQ:(Instr.yield l #[.int .i64 0,.bool B]).run prog W2= .ok (.round l fn tmps assign body) W2:=hy;clear hB a0 al b0 bl mr hy
 gi_wp2
 rw[JQ];refine⟨λ_=>Oy,hR.mono ?_⟩;rintro e W3 (⟨rfl,hJ3,hk3⟩ | ⟨rfl,GK⟩)
 ·have HJ3:=X6 hJ3;clear hR JQ hJ3 hk3
  gi_wp2
  rw[roundsIn_succ]
  gi_wp2
  go_end0;exact⟨⟨_,rfl⟩,.inl ⟨_,rfl,by have:=HJ3.out;rw[JR.out]at this;exact this⟩⟩
 ·have zF:=X6 GK;clear hR JQ GK
  gi_wp2
  refine ZQ (aCR rfl _ _ _) rfl ?_;exact⟨⟨_,rfl⟩,.inr ⟨_,rfl,by have:=zF.out;rw[JR.out]at this;exact this⟩⟩
theorem vE(hv:VwV v)(Et:CB uw)(Za:v=uw->v=100)(hn:lq w gN 65 (lI vm).toArray)(hc:lq w gC 38 #[lx,lx,lx,lx])(hu:lq w gU 40 #[uw,lx,lx])(hh:lq w gH 2 #[lx])(hf:lq w gF 43 frV): Calls prog 10 #[.agg #[.slice gN 1 1,lH,v],.agg #[.slice gC 1 1,.slice gU 1 1,.slice gH 1 1,.slice gF 1 1]] w λe w'=>e= .returned (.int .i64 (if v=uw then -1 else 0))/\Below w.heap.size w w':=by
 refine(callsIn_wide (n:=5)).1 ?_;refine callsIn_of_wp_marks func10 rfl trivial ?_ rfl;simp only[ntmps10,Z1,ZA,aBD,Nat.reduceAdd,Nat.reduceSub,Array.replicate_succ,Array.replicate_zero,List.push_toArray,List.append_toArray,aBZ,aCI];refine wpIn_wide.2 ?_;have HV:Hid (VwV v/\CB uw/\(v=uw->v=100)):=X6 ⟨hv,Et,Za⟩;obtain⟨w1,mW⟩:∃W,W=((w.alloc (.cells #[.slice gN 1 1,lH,v] 25)).alloc (.cells #[.slice gC 1 1,.slice gU 1 1,.slice gH 1 1,.slice gF 1 1] 32)).alloc (.cells #[lx] 3):=⟨_,rfl⟩;have mA:Hid (Below w.heap.size w w1):=X6 (by rw[mW];exact(bA.alloc (by simp) _).alloc (by simp;omega) _);have rK:Hid (lq w1 w.heap.size 25 #[.slice gN 1 1,lH,v]/\lq w1 (w.heap.size+1) 32 #[.slice gC 1 1,.slice gU 1 1,.slice gH 1 1,.slice gF 1 1]/\lq w1 (w.heap.size+1+1) 3 #[lx]):=X6 (by rw[mW];exact⟨((lq.new _ _ _).alloc _).alloc _,(lq.at_ _ _ _ (by simp)).alloc _,lq.at_ _ _ _ (by simp)⟩);have Qs:=X6 (λW' (h:Below w.heap.size w W')=>And.intro (hn.below h hn.lt) (And.intro (hc.below h hc.lt) (And.intro (hu.below h hu.lt) (And.intro (hh.below h hh.lt) (hf.below h hf.lt)))));have HRM:=X6 (λW=>Hv (gN:=gN) (gC:=gC) (gU:=gU) (gH:=gH) (gF:=gF) (v:=v) (w:=W));clear hn hc hu hh hf hv Et Za;go_upto_region 1 with(fail)
 rw[<-mW];clear mW;have t0:=rK.1.get 0 rfl;have t1:=rK.1.get 1 rfl;have t2:=rK.1.get 2 rfl;have tl:=rK.1.lt;have x0:=rK.2.1.get 0 rfl;have x1:=rK.2.1.get 1 rfl;have x2:=rK.2.1.get 2 rfl;have x3:=rK.2.1.get 3 rfl;have xl:=rK.2.1.lt;go_wp2_with fail;refine(HRM.out _).mono ?_;rintro e w2 ⟨rfl,mr⟩;have nx:=X6 (mA.trans (mr.mono mA.size));have CZ:=X6 (rK.2.2.below mr rK.2.2.lt);have HT:Hid (∀W',Below w2.heap.size w2 W'->((W'.cell? (w.heap.size,0)=some (.slice gN 1 1)/\W'.cell? (w.heap.size,1)=lH/\W'.cell? (w.heap.size,2)=v)/\
   (W'.cell? (w.heap.size+1,0)=some (.slice gC 1 1)/\W'.cell? (w.heap.size+1,1)=some (.slice gU 1 1)/\W'.cell? (w.heap.size+1,2)=some (.slice gH 1 1)/\W'.cell? (w.heap.size+1,3)=some (.slice gF 1 1))/\w.heap.size<W'.heap.size/\w.heap.size+1<W'.heap.size)):=X6 (λW' h=>by
  have b:=rK.1.below mr rK.1.lt
  have c:=rK.2.1.below mr rK.2.1.lt
  have b:=b.below h b.lt
  have c:=c.below h c.lt
  exact⟨⟨b.get 0 rfl,b.get 1 rfl,b.get 2 rfl⟩,⟨c.get 0 rfl,c.get 1 rfl,c.get 2 rfl,c.get 3 rfl⟩,b.lt,c.lt⟩)
 have Ct:=X6 (λW' (h:Below w2.heap.size w2 W')=>KP (v:=v) (Qs.out W' (nx.trans (h.mono nx.size))).1);have HQ:=X6 (λ(gK ga:Nat) (W':World) (h:Below w2.heap.size w2 W') (bK:lq W' gK 51 #[lH]) (ba:lq W' ga 83 #[.slice gN 1 1,lH,.int .i64 v,.slice gC 1 1,.slice gU 1 1,.slice gH 1 1,.slice gF 1 1,.slice gK 1 1])=>(show sj ga gN gC gU gH gF gK v uw W' from by obtain⟨m1,m2,m3,m4,m5⟩:=Qs.out W' (nx.trans (h.mono nx.size));exact⟨m1,m2,m3,m4,m5,bK,ba⟩));clear mr t0 t1 t2 tl x0 x1 x2 x3 xl;go_upto_region 3 with(fail)
 refine wp_mono (Q:=λe a6 W6=>e= .normal/\∃gK g5,a6={tmps:= #[.agg #[.slice gN 1 1,lH,v],.agg #[.slice gC 1 1,.slice gU 1 1,.slice gH 1 1,.slice gF 1 1],.pointer w.heap.size,.pointer (some ⟨w.heap.size+1,0,none⟩),.pointer (some ⟨w.heap.size+1+1,0,none⟩),.pointer (some ⟨g5,0,none⟩),undef,undef,.agg #[.slice gN 1 1,lH,v],.agg #[.slice gC 1 1,.slice gU 1 1,.slice gH 1 1,.slice gF 1 1],.bool true,.bool false,.agg #[.slice gN 1 1,lH,v],.agg #[.slice gC 1 1,.slice gU 1 1,.slice gH 1 1,.slice gF 1 1],.agg #[.slice gN 1 1,lH,v],.slice (some ⟨gK,0,none⟩) 1 1,.agg #[.slice gN 1 1,lH,v,.slice gC 1 1,.slice gU 1 1,.slice gH 1 1,.slice gF 1 1,.slice (some ⟨gK,0,none⟩) 1 1],undef,undef,undef,undef,undef,undef],defers:=[]}/\Hid (sj g5 gN gC gU gH gF gK v uw W6)/\Hid (Below w2.heap.size w2 W6)) ?_ ?_;rotate_left
 ·rintro e a6 W6 ⟨rfl,gK,g5,rfl,HQ6,KA⟩;have Bh:Hid (lq W6 (w.heap.size+1+1) 3 #[lx]/\Below w.heap.size w W6):=X6 ⟨CZ.below KA.out CZ.lt,nx.trans (KA.mono nx.size)⟩;go_wp2_with fail;refine(TM _).mono ?_;rintro e w7 ⟨rfl,hw7⟩;have qk:Below W6.heap.size W6 w7:=by rw[<-hw7];exact bA
  have HBX:Hid (lq w7 W6.heap.size 104 #[.pointer g5]):=X6 (by rw[<-hw7];exact lq.new _ _ _);have UE:Hid (lq w7 (w.heap.size+1+1) 3 #[lx]/\Below w.heap.size w w7):=X6 ⟨Bh.1.below qk Bh.1.lt,Bh.2.trans (qk.mono Bh.2.size)⟩;have Mq:=X6 (HQ6.below qk);have HSQ:=X6 (P6 4 (by decide) HV.1 HV.2.1 HV.2.2 W6.heap.size w.heap.size w7 HBX.out Mq.out);have Zi:Hid (w.heap.size+1+1<w7.heap.size/\w.heap.size<=w7.heap.size):=X6 ⟨UE.1.lt,UE.2.size⟩;clear hw7 qk;go_wp2_with fail;refine(wpIn_wide (n:=5)).1 ?_;refine wpIn_rangeFunc_ownF (F:=Fence.wide) (n:=5) (w0:=w7) rfl (by decide) (gf:=41) (lb:= #[.pointer W6.heap.size]) rfl trivial
   (enters_of func41 (by kernel_rfl) rfl) HSQ.out belowK_t (belowK_b Zi.2) (ZN _ _) (λ_=>rfl)
   (λpre W=>((∀b∈pre,b=true)/\lq W (w.heap.size+1+1) 3 #[lx])/\Below w.heap.size w W)
   (λcd pre W=>(cd= .ret/\(∃b∈pre,b=false)/\lq W (w.heap.size+1+1) 3 #[lx])/\Below w.heap.size w W)
   (OwnFrom.and (λs A B row hs hg hr=>⟨hs.1,(hg.block _ hs.2.lt (λe=>by have:=(hr _ e.symm).1;have:=Zi.1;omega)).trans hs.2⟩) (ownFrom_below (X7 _) Zi.2))
   (λc=>OwnFrom.and (λs A B row hs hg hr=>⟨hs.1,hs.2.1,(hg.block _ hs.2.2.lt (λe=>by have:=(hr _ e.symm).1;have:=Zi.1;omega)).trans hs.2.2⟩) (ownFrom_below (X7 _) Zi.2))
   ⟨⟨by simp,UE.1⟩,UE.2⟩ ?a1 ?assign ?body ?done ?stop
  case assign=>
   intro l x W K hK
   gi_wp2
   exact hK
  case body=>
   rintro l pre x W ⟨⟨hp,hb⟩,hB⟩ _;have HB:=X6 (And.intro hb hB);have HP:=X6 hp;have r0:=hb.c1;have rl:=hb.lt;have rf:=hb.frozen 0;clear hp hb hB;cases x
   ·gi_wp2
    exact⟨KeepsOthers.setCell _ _ _,⟨rfl,⟨false,by simp,rfl⟩,HB.1.lA 0 (.int .i64 0)⟩,HB.2.setCell (p:=(w.heap.size+1+1,0)) (by simp;omega) _⟩
   ·gi_wp2
    exact⟨KeepsOthers.refl _,ZN _ _,⟨λy hy=>(YW.1 hy).elim (HP.out y) (λe=>by simpa using e),HB.1⟩,HB.2⟩
  case done=>rintro D ys W hD rfl ⟨⟨mI,hr⟩,hB⟩ hK;have Xl:v=uw:=(by have:=mI (v == uw) (by simp);exact ZR.1 this);have r0:=hr.c1;have rl:=hr.lt;have rf:=hr.frozen 0;go_wp2_with fail;have hK':=(KeepsOthers.setCell W ⟨w.heap.size+1+1,0,none⟩ (.int .i64 (-1))).same D _ hK rfl;refine⟨by simp,.inl ⟨_,_,rfl,run_takeDeferred hK',?_⟩⟩;have hg:=Zi.out;have hY:lq ((W.setCell (w.heap.size+1+1,0) (.int .i64 (-1))).putObj D (.deferred none)) (w.heap.size+1+1) 3 #[.int .i64 (-1)]:=(World.putObj_heap_other (by omega)).trans (hr.lA 0 (.int .i64 (-1)));have hY0:=hY.c1;refine⟨.int .i64 (-1),?_,by first | rfl | rw[YP Xl],(hB.setCell (p:=(w.heap.size+1+1,0)) (by simp;omega) _).trans (belowK_b (w:=w) (X7 _) _ D _ _ (by omega) hK' rfl rfl)⟩;simp[results,results10,go_sem,hY0]
  case stop=>
   rintro D c pre W hD rfl ⟨⟨rfl,SM,hr⟩,hB⟩ hK;have Xl:¬v=uw:=by obtain⟨b,nY,mr⟩:=SM;intro h;simp only[Y7,ZD,DA]at nY;rw[mr]at nY;exact absurd (ZR.2 h) (by rw[<-nY];simp)
   gi_wp2
   refine⟨by simp,.inl ⟨_,_,rfl,run_takeDeferred hK,?_⟩⟩;have hg:=Zi.out;have hY:lq (W.putObj D (.deferred none)) (w.heap.size+1+1) 3 #[lx]:=(World.putObj_heap_other (by omega)).trans hr;have hY0:=hY.c1;refine⟨.int .i64 0,?_,by first | rfl | rw[YO Xl],hB.trans (belowK_b (w:=w) (X7 _) _ D _ _ (by omega) hK rfl rfl)⟩;simp[results,results10,go_sem,hY0]
 have E0:Below w2.heap.size w2 w2.drew:=(ZN _ _).drew;refine wp_region_held_drew (S:=λW=>Below w2.heap.size w2 W) (by kernel_rfl) E0 (λhS=>?_);refine wpAnyH_take (i:=0) (v:=?_) rfl (by kernel_rfl) (by kernel_rfl) (by kernel_rfl) (λ_ _ _ h=>nomatch h.1) (Or.inl ⟨by rfl,?_⟩) hS ?_;rotate_left
 ·intro W' lr;have hT:=HT.out _ lr;obtain⟨⟨t0,t1,t2⟩,⟨x0,x1,x2,x3⟩,tl,xl⟩:=hT;go_simp;rfl
 try simp only[Act.put,X8,YF,YE,YD,YA,YB]
 refine wpAnyH_take (i:=1) (v:=?_) rfl (by kernel_rfl) (by kernel_rfl) (by kernel_rfl) (λ_ _ _ h=>nomatch h.1) (Or.inl ⟨by rfl,?_⟩) hS ?_;rotate_left
 ·intro W' lr;have hT:=HT.out _ lr;obtain⟨⟨t0,t1,t2⟩,⟨x0,x1,x2,x3⟩,tl,xl⟩:=hT;go_simp;rfl
 try simp only[Act.put,X8,YF,YE,YD,YA,YB]
 refine wpAnyH_take (i:=2) (v:=?_) rfl (by kernel_rfl) (by kernel_rfl) (by kernel_rfl) (λ_ _ _ h=>nomatch h.1) (Or.inl ⟨by rfl,?_⟩) hS ?_;rotate_left
 ·intro W' lr;have hT:=HT.out _ lr;obtain⟨⟨t0,t1,t2⟩,⟨x0,x1,x2,x3⟩,tl,xl⟩:=hT;go_simp;rfl
 try simp only[Act.put,X8,YF,YE,YD,YA,YB]
 refine J0 3 5 (λK hK=>?_) (λK hK=>?_)
 ·go_simp;refine(Ct.out _ hS).mono ?_;rintro e w4 ⟨⟨gK,rfl,bK⟩,uE⟩;have SC:Below w2.heap.size w2 w4:=hS.trans (uE.mono hS.size);have lK:=bK.lt;clear uE;refine ky hK SC λhS=>?_;clear hK;refine wpAnyH_take (i:=4) (v:= .agg #[.slice gN 1 1,.slice none 0 0,.int .i64 v,.slice gC 1 1,.slice gU 1 1,.slice gH 1 1,.slice gF 1 1,.slice gK 1 1]) rfl (by kernel_rfl) (by kernel_rfl) (by kernel_rfl) (λ_ _ _ h=>nomatch h.1) (Or.inl ⟨by rfl,?_⟩) hS ?_
  ·intro W' lr;kernel_rfl
  try simp only[Act.put,X8,YF,YE,YD,YA,YB]
  refine mV 5 (λK hK=>?_);go_simp;refine ky hK (SC.alloc SC.size _) λhS=>?_;clear hK;obtain⟨g5,CT⟩:∃g,g=w4.heap.size:=⟨_,rfl⟩;obtain⟨W5,CG⟩:∃W,W=w4.alloc (.cells #[lH,lH,lx,lH,lH,lH,lH,lH] 83):=⟨_,rfl⟩;have b5:lq W5 g5 83 #[lH,lH,lx,lH,lH,lH,lH,lH]:=by rw[CG,CT];exact lq.new _ _ _
  have bK:=(show lq W5 gK 51 #[.slice none 0 0] by rw[CG];exact bK.alloc _);rw[<-CG]at hS⊢;rw[<-CT];have qU:w2.heap.size<=g5:=by rw[CT];exact SC.size
  have mI:g5≠gK:=lq.se b5 bK (by decide);clear CG CT;have z0:=b5.get 0 rfl;have z1:=b5.get 1 rfl;have z2:=b5.get 2 rfl;have z3:=b5.get 3 rfl;have z4:=b5.get 4 rfl;have z5:=b5.get 5 rfl;have z6:=b5.get 6 rfl;have z7:=b5.get 7 rfl;have zl:=b5.lt;have Te:=b5.frozen 0;have Tj:=b5.frozen 1;have Tv:=b5.frozen 2;have Tt:=b5.frozen 3;have TG:=b5.frozen 4;have zf5:=b5.frozen 5;have zf6:=b5.frozen 6;have zf7:=b5.frozen 7;have MD:=((((((((b5.lA 0 (.slice gN 1 1)).lA 1 (.slice none 0 0)).lA 2 v).lA 3 (.slice gC 1 1)).lA 4 (.slice gU 1 1)).lA 5 (.slice gH 1 1)).lA 6 (.slice gF 1 1)).lA 7 (.slice gK 1 1));have vC:=((((((((hS.setCell (p:=(g5,0)) qU (.slice gN 1 1)).setCell (p:=(g5,1)) qU (.slice none 0 0)).setCell (p:=(g5,2)) qU (.int .i64 v)).setCell (p:=(g5,3)) qU (.slice gC 1 1)).setCell (p:=(g5,4)) qU (.slice gU 1 1)).setCell (p:=(g5,5)) qU (.slice gH 1 1)).setCell (p:=(g5,6)) qU (.slice gF 1 1)).setCell (p:=(g5,7)) qU (.slice gK 1 1));have Hl:=((((((((bK.lQ (p:=(g5,0)) (Ck mI) (.slice gN 1 1)).lQ (p:=(g5,1)) (Ck mI) (.slice none 0 0)).lQ (p:=(g5,2)) (Ck mI) (.int .i64 v)).lQ (p:=(g5,3)) (Ck mI) (.slice gC 1 1)).lQ (p:=(g5,4)) (Ck mI) (.slice gU 1 1)).lQ (p:=(g5,5)) (Ck mI) (.slice gH 1 1)).lQ (p:=(g5,6)) (Ck mI) (.slice gF 1 1)).lQ (p:=(g5,7)) (Ck mI) (.slice gK 1 1));refine mV 6 (λK hK=>?_);go_simp;refine ky hK vC λhS=>?_;clear hK;obtain⟨W6,VM⟩:∃W,W=((((((((W5.setCell (g5,0) (.slice gN 1 1)).setCell (g5,1) (.slice none 0 0)).setCell (g5,2) v).setCell (g5,3) (.slice gC 1 1)).setCell (g5,4) (.slice gU 1 1)).setCell (g5,5) (.slice gH 1 1)).setCell (g5,6) (.slice gF 1 1)).setCell (g5,7) (.slice gK 1 1)):=⟨_,rfl⟩;rw[<-VM]at MD vC Hl⊢;clear hS VM b5 bK z0 Te z1 Tj z2 Tv z3 Tt z4 TG z5 zf5 z6 zf6 z7 zf7 zl;refine nR ?_;have KA:=X6 vC;have HQ6:Hid (sj g5 gN gC gU gH gF gK v uw W6):=X6 (HQ.out gK g5 _ vC Hl (by simpa using MD));clear MD vC Hl;exact⟨rfl,gK,g5,rfl,HQ6,KA⟩
 ·go_simp;refine ky hK (hS.alloc hS.size _) λhS=>?_;clear hK;obtain⟨W5,CG⟩:∃W,W=(w2.alloc (.cells #[lH,lH,lx,lH,lH,lH,lH,lH] 83)).drew:=⟨_,rfl⟩;have b5':lq W5 w2.heap.size 83 #[lH,lH,lx,lH,lH,lH,lH,lH]:=by rw[CG];exact(lq.new _ _ _).drew
  rw[<-CG]at hS⊢;have qU:w2.heap.size<=w2.heap.size:=X7 _;clear CG;refine mV 3 (λK hK=>?_);go_simp;refine(Ct.out _ hS).mono ?_;rintro e w4 ⟨⟨gK,rfl,bK⟩,uE⟩;have SC:Below w2.heap.size w2 w4:=hS.trans (uE.mono hS.size);have b5:=b5'.below uE b5'.lt;have mI:w2.heap.size≠gK:=lq.se b5 bK (by decide);clear uE b5';refine ky hK SC λhS=>?_;clear hK;refine wpAnyH_take (i:=4) (v:= .agg #[.slice gN 1 1,.slice none 0 0,.int .i64 v,.slice gC 1 1,.slice gU 1 1,.slice gH 1 1,.slice gF 1 1,.slice gK 1 1]) rfl (by kernel_rfl) (by kernel_rfl) (by kernel_rfl) (λ_ _ _ h=>nomatch h.1) (Or.inl ⟨by rfl,?_⟩) hS ?_
  ·intro W' lr;kernel_rfl
  try simp only[Act.put,X8,YF,YE,YD,YA,YB]
  have z0:=b5.get 0 rfl;have z1:=b5.get 1 rfl;have z2:=b5.get 2 rfl;have z3:=b5.get 3 rfl;have z4:=b5.get 4 rfl;have z5:=b5.get 5 rfl;have z6:=b5.get 6 rfl;have z7:=b5.get 7 rfl;have zl:=b5.lt;have Te:=b5.frozen 0;have Tj:=b5.frozen 1;have Tv:=b5.frozen 2;have Tt:=b5.frozen 3;have TG:=b5.frozen 4;have zf5:=b5.frozen 5;have zf6:=b5.frozen 6;have zf7:=b5.frozen 7;have MD:=((((((((b5.lA 0 (.slice gN 1 1)).lA 1 (.slice none 0 0)).lA 2 v).lA 3 (.slice gC 1 1)).lA 4 (.slice gU 1 1)).lA 5 (.slice gH 1 1)).lA 6 (.slice gF 1 1)).lA 7 (.slice gK 1 1));have vC:=((((((((hS.setCell (p:=(w2.heap.size,0)) qU (.slice gN 1 1)).setCell (p:=(w2.heap.size,1)) qU (.slice none 0 0)).setCell (p:=(w2.heap.size,2)) qU (.int .i64 v)).setCell (p:=(w2.heap.size,3)) qU (.slice gC 1 1)).setCell (p:=(w2.heap.size,4)) qU (.slice gU 1 1)).setCell (p:=(w2.heap.size,5)) qU (.slice gH 1 1)).setCell (p:=(w2.heap.size,6)) qU (.slice gF 1 1)).setCell (p:=(w2.heap.size,7)) qU (.slice gK 1 1));have Hl:=((((((((bK.lQ (p:=(w2.heap.size,0)) (Ck mI) (.slice gN 1 1)).lQ (p:=(w2.heap.size,1)) (Ck mI) (.slice none 0 0)).lQ (p:=(w2.heap.size,2)) (Ck mI) (.int .i64 v)).lQ (p:=(w2.heap.size,3)) (Ck mI) (.slice gC 1 1)).lQ (p:=(w2.heap.size,4)) (Ck mI) (.slice gU 1 1)).lQ (p:=(w2.heap.size,5)) (Ck mI) (.slice gH 1 1)).lQ (p:=(w2.heap.size,6)) (Ck mI) (.slice gF 1 1)).lQ (p:=(w2.heap.size,7)) (Ck mI) (.slice gK 1 1));refine mV 6 (λK hK=>?_);go_simp;refine ky hK vC λhS=>?_;clear hK;obtain⟨W6,VM⟩:∃W,W=((((((((w4.setCell (w2.heap.size,0) (.slice gN 1 1)).setCell (w2.heap.size,1) (.slice none 0 0)).setCell (w2.heap.size,2) v).setCell (w2.heap.size,3) (.slice gC 1 1)).setCell (w2.heap.size,4) (.slice gU 1 1)).setCell (w2.heap.size,5) (.slice gH 1 1)).setCell (w2.heap.size,6) (.slice gF 1 1)).setCell (w2.heap.size,7) (.slice gK 1 1)):=⟨_,rfl⟩;rw[<-VM]at MD vC Hl⊢;clear hS VM b5 bK z0 Te z1 Tj z2 Tv z3 Tt z4 TG z5 zf5 z6 zf6 z7 zf7 zl;refine nR ?_;have KA:=X6 vC;have HQ6:Hid (sj w2.heap.size gN gC gU gH gF gK v uw W6):=X6 (HQ.out gK w2.heap.size _ vC Hl (by simpa using MD));clear MD vC Hl;exact⟨rfl,gK,w2.heap.size,rfl,HQ6,KA⟩
end
end
section
attribute [local go_sem] lp
structure IB(gC gU gH gF:Nat)(uw:Int)(W:World):Prop where
 c:lq W gC 38 #[lx,lx,lx,lx]
 u:lq W gU 40 #[uw,lx,lx]
 h:lq W gH 2 #[lx]
 f:lq W gF 43 #[lx,lx,uw,lx,lH]
section
variable{ga gN gC gU gH gF gK:Nat}{v uw:Int}{w:World}
theorem IB.below{W W':World}(q:IB gC gU gH gF uw W)(hb:Below W.heap.size W W'):IB gC gU gH gF uw W':=
 ⟨q.c.below hb q.c.lt,q.u.below hb q.u.lt,q.h.below hb q.h.lt,q.f.below hb q.f.lt⟩
theorem Nv(hv:VwV v)(hn:lq w gN 65 (lI vm).toArray)(q:IB gC gU gH gF 100 w): Calls prog 9 #[.agg #[.slice gN 1 1,lH,v],.agg #[.slice gC 1 1,.slice gU 1 1,.slice gH 1 1,.slice gF 1 1]] w λe w'=>e= .returned (.bool (decide (v=100)))/\Below w.heap.size w w':=by
 have HW:=X6 (λW' (h:Below w.heap.size w W')=>vE hv GQ.c (λh=>h) (hn.below h hn.lt) (q.below (h.mono (X7 _))).c (q.below (h.mono (X7 _))).u (q.below (h.mono (X7 _))).h (q.below (h.mono (X7 _))).f);have HB:Hid (∀o o2:Obj,Below w.heap.size w ((w.alloc o).alloc o2)):=X6 (λo o2=>bA.alloc (by simp) _);clear hn q hv;by_cases h:v=100
 ·have e1:decide (v=100)=true:=YC h;rw[e1];simp only[YP h]at HW;clear h e1;go_enter func9,ntmps9;go_wp2_with fail;refine(HW.out _ (HB.out _ _)).mono ?_;rintro e w2 ⟨rfl,mr⟩;have nx:=X6 ((HB.out _ _).trans (mr.mono (HB.out _ _).size));clear mr;go_wp2_with fail;go_ret;exact⟨rfl,nx.out⟩
 ·have e1:decide (v=100)=false:=X9 h;rw[e1];simp only[YO h]at HW;clear h e1;go_enter func9,ntmps9;go_wp2_with fail;refine(HW.out _ (HB.out _ _)).mono ?_;rintro e w2 ⟨rfl,mr⟩;have nx:=X6 ((HB.out _ _).trans (mr.mono (HB.out _ _).size));clear mr;go_wp2_with fail;go_ret;exact⟨rfl,nx.out⟩
end
end
section
attribute [local go_sem] lp
section
variable{ga gN gC gU gH gF gK:Nat}{v uw:Int}{w:World}
end
end
section
attribute [local go_sem] lp
theorem pA{P:Program}{ops:Array Oper}{rest:List Oper}{o:Oper}{a:Act}{w w':World}{Q:Exit->Act->World->Prop}{v:Value}(tZ:o.guard=none) (rC:(execOp a.eval o).run P w= .ok (.value v) w') (h:wpList P ops Q rest (a.put o.dst v) w'):wpList P ops Q (o::rest) a w:=
 aB4 tZ λK hK=>by unfold Oper.wp;simp only[rC];exact hK _ _ h
def VK:Array Value->Nat->List Value->Array Value
 | cs,_,[]=>cs
 | cs,o,v::vs=>VK (cs.setIfInBounds o v) (o+1) vs
theorem pC{g:Nat}{t:TypeId}:∀(vs:List Value) (o:Nat) (w:World) (cs:Array Value),lq w g t cs->lq (w.setCells g o vs) g t (VK cs o vs)
 | [],_,_,_,h=>h
 | v::vs,o,w,cs,h=>pC vs (o+1) _ _ (h.lA o v)
end
end Go.Proofs.YtjhingednpjogaaGreat
