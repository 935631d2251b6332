/- Lemmas for ValidRoom; laid together by a program. -/
import Derived.Test.YtjhingednpjogaaGreatQn
set_option linter.all false
set_option maxRecDepth 100000
set_option maxHeartbeats 40000000
namespace Go.Proofs.YtjhingednpjogaaGreat
open Go.Proofs.Tryz
open Go.RowKit
attribute [local go_sem] lp
structure vG(C:Qx)(W0:World)(gs:Nat)(s:me)(a s1 s2:Int)(Af:Option Addr)(cf:Nat)(fl:List Fl)(W:World):Prop where
 w:nT C a s1 s2 Af cf fl W
 s:lq W gs 63 (lj s).toArray
 ge:C.B<=gs
 k:uG C W0 W
section
variable{C:Qx}{W0:World}{gs:Nat}{s:me}{a s1 s2 a' s1' s2':Int}{Af Af':Option Addr}{cf cf':Nat}{fl fl':List Fl}{W W':World}
theorem vG.via(h:vG C W0 gs s a s1 s2 Af cf fl W)(hw:nT C a' s1' s2' Af' cf' fl' W')(hk:uG C W W'):vG C W0 gs s a' s1' s2' Af' cf' fl' W':=⟨hw,hk.qB h.s h.ge (by decide),h.ge,h.k.trans hk⟩
theorem vG.lR(h:vG C W0 gs s a s1 s2 Af cf fl W)(hC:nJ C)(hb:Below W.heap.size W W'):vG C W0 gs s a s1 s2 Af cf fl W':=h.via (h.w.below hC hb) (uG.nD hb)
theorem vG.drew(h:vG C W0 gs s a s1 s2 Af cf fl W)(hC:nJ C):vG C W0 gs s a s1 s2 Af cf fl W.drew:=h.lR hC (ZN _ _).drew
theorem vG.vT(h:vG C W0 gs s a s1 s2 Af cf fl W)(hC:nJ C)(v v':Int):vG C W0 gs s a v v' Af cf fl ((W.setCell (C.bw,8) v).setCell (C.bw,9) v'):=
 h.via (h.w.vT hC v v') ((uG.refl.lA hC (g:=C.bw) (by simp[Qx.arr]) 8 _).lA hC (g:=C.bw) (by simp[Qx.arr]) 9 _)
theorem vG.setAt(h:vG C W0 gs s a s1 s2 Af cf fl W)(hC:nJ C)(v:Int):vG C W0 gs s v s1 s2 Af cf fl (W.setCell (C.bw,7) v):=
 h.via (h.w.setAt hC v) (uG.refl.lA hC (g:=C.bw) (by simp[Qx.arr]) 7 _)
theorem vG.Oh(h:vG C W0 gs s a s1 s2 Af cf fl W)(hC:nJ C)(j:Nat)(v:Bool):vG C W0 gs s a s1 s2 Af cf fl (W.setCell (C.go,j) (.bool v)):=
 h.via (h.w.Oh hC j v) (uG.refl.lA hC (g:=C.go) (by simp[Qx.arr]) j _)
theorem vG.LQ(h:vG C W0 gs s a s1 s2 Af cf fl W)(hC:nJ C)(j:Nat)(v:Int):vG C W0 gs s a s1 s2 Af cf fl (W.setCell (C.gx,j) v):=
 h.via (h.w.LQ hC j v) (uG.refl.lA hC (g:=C.gx) (by simp[Qx.arr]) j _)
theorem vG.Ew(h:vG C W0 gs s a s1 s2 Af cf fl W)(hC:nJ C)(j:Nat)(v:Int):vG C W0 gs s a s1 s2 Af cf fl (W.setCell (C.gy,j) v):=
 h.via (h.w.Ew hC j v) (uG.refl.lA hC (g:=C.gy) (by simp[Qx.arr]) j _)
theorem vG.FI(h:vG C W0 gs s a s1 s2 Af cf fl W)(hC:nJ C)(j:Nat)(v:Int):vG C W0 gs s a s1 s2 Af cf fl (W.setCell (C.gh,j) v):=
 h.via (h.w.FI hC j v) (uG.refl.lA hC (g:=C.gh) (by simp[Qx.arr]) j _)
theorem vG.rng(h:vG C W0 gs s a s1 s2 Af cf fl W):W.rangeAt gs 0 (lj s):=AH h.s
end
section
variable(C:Qx)(a s1 s2:Int)(Af:Option Addr)(cf:Nat)(fl:List Fl)(W:World)
theorem vB(hC:nJ C)(h:nT C a s1 s2 Af cf fl W)(i:Nat)(hi:i<C.l.length)(below:Int):Calls prog 229 #[.pointer C.bw,i,below] W λe w'=>(∃v,e= .returned v)/\(∃a' s1' s2',nT C a' s1' s2' Af cf fl w')/\uG C W w':=by
 have wQ:(i:Int)<(C.l.length:Int):=by omega
 obtain⟨⟨c0,-⟩,-,-,cl⟩:=h.cs;obtain⟨ad,hA,qu,-,hr⟩:=h.nd hC i hi;obtain⟨Au,nu,cu,huv⟩:=hC.qt.uv _ (YJ hi);have pP:=X6 hr;have HO:=X6 (me.one C.l[i].s huv);obtain⟨s,hs⟩:∃s,s=C.l[i].s:=⟨_,rfl⟩;rw[<-hs]at pP HO;rw[hA]at c0;have HC:=X6 hC;have HV1:Hid (vG C W W.heap.size s a s1 s2 Af cf fl (W.alloc (.cells (lj s).toArray 63))):=X6 ⟨h.below hC bA,lq.new _ _ _,h.sz,uG.nD bA⟩;have SV:=X6 (λa s1 s2 W (h:nT C a s1 s2 Af cf fl W)=>rP C a s1 s2 Af cf fl W hC h);have wZ:=X6 (λa s1 s2 W (h:nT C a s1 s2 Af cf fl W) e he=>rN C a s1 s2 Af cf fl W hC h i hi e he);have rT:=X6 (λa s1 s2 W (h:nT C a s1 s2 Af cf fl W)=>rY C a s1 s2 Af cf fl W hC h);have HHI:=X6 (λv W=>uY s v W);have Xr:=X6 (λx y z W=>uN x y z W);have HII:=X6 hi;clear hr hs hA huv h hC;go_enter func229,ntmps229;go_upto_region 1 with(first | refine wpList_load_mid rfl 63 (.tmp 19) rfl ad.block ((ad.add (i*44)).off+1) rfl (lj s) _ pP.out underlying63 rfl (by kernel_rfl) ?_ | refine lJ rfl 63 _ _ rfl _ rfl (lj s).toArray rfl rfl 63 _ (by kernel_rfl) rfl HO.out ?_);obtain⟨gs,rL⟩:∃g,g=W.heap.size:=⟨_,rfl⟩;rw[<-rL]at HV1⊢;clear rL c0 qu cl pP;generalize World.alloc W _=w1 at HV1⊢;go_upto_region 2 with(go_at_call 193;refine(wZ.out _ _ _ _ HV1.w 2 (by omega)).mono ?_;rintro e w2 ⟨⟨floor,rfl⟩,mr⟩;have qH:=X6 (HV1.lR HC.out mr);clear mr);have sl:=qH.s.lt;go_upto_region 3 with(first | (refine wpList_load_mid rfl 63 _ rfl gs 0 rfl (lj s) _ qH.rng underlying63 rfl (by kernel_rfl) ?_) | (go_at_call 83;refine(HHI.out _ _).mono ?_;rintro e w3 ⟨⟨nn,rfl,xG⟩,pn⟩;have BX:=X6 (qH.lR HC.out pn);clear pn xG));clear sl HV1 qH;go_cut [40] (λv V=>(∃b:Bool,v= .bool b)/\Hid (vG C W gs s a s1 s2 Af cf fl V));case first=>
  as_aux_lemma=>
  obtain⟨-,-,⟨oN,-⟩,cl⟩:=BX.w.cs;obtain⟨b,o0⟩:=BX.w.op.at_ hi;have ol:=BX.w.op.lt;cases b
  ·go_wp2_with fail;go_meet;exact⟨⟨_,rfl⟩,BX⟩
  ·cases e1:(floor == 0)
   ·go_wp2_with fail;go_meet;exact⟨⟨_,rfl⟩,BX⟩
   ·go_wp2_with fail;go_meet;exact⟨⟨_,rfl⟩,BX⟩
 case rest=>
 clear BX;obtain⟨⟨b1,rfl⟩,HV⟩:=hcut;cases b1;rotate_left
 ·skip
  as_aux_lemma=>
  go_upto_region 4 with(fail);refine wp_region_held_drew (S:=λW'=>vG C W gs s a s1 s2 Af cf fl W') (by kernel_rfl) (HV.drew HC.out) (λhS=>?_);refine nk [0,1,2,3,4,5] ?_;iterate 6
   refine tk hS (y:=by intro W' lr;obtain⟨-,-,⟨-,-,AV,-⟩,cl⟩:=lr.w.cs;go_simp;rfl) (h:=?_)
  refine np ?_;refine mV 6 (λK hK=>?_);go_simp;refine(SV.out _ _ _ _ hS.w).mono ?_;rintro e w9 ⟨⟨x9,rfl⟩,mH⟩;refine ky hK (hS.lR HC.out mH) λhS=>?_;clear hK;refine nk [7] ?_;refine tk hS (y:=by intro W' lr;obtain⟨-,-,⟨-,-,AV,-⟩,cl⟩:=lr.w.cs;go_simp;rfl) (h:=?_);refine np ?_;refine mV 8 (λK hK=>?_);obtain⟨y8,o8⟩:=hS.w.y.at_ hi;have Kv:=hS.w.y.lt;have MV:=hS.w.y.frozen;go_simp;clear o8 Kv MV;refine ky hK (hS.Ew HC.out i x9) λhS=>?_;clear hK;refine nR ?_;have qH:=X6 hS;clear hS HV;obtain⟨-,-,⟨oN,-⟩,cl⟩:=qH.w.cs;obtain⟨b6,o0⟩:=qH.w.op.at_ hi;have ol:=qH.w.op.lt;have oz:=qH.w.op.frozen;go_upto_region 6 with(fail)
  have BX:=X6 (qH.Oh HC.out i false);clear oN cl o0 ol oz qH;generalize World.setCell _ _ _=w6 at BX⊢;obtain⟨-,⟨-,c8,c9,-⟩,-,cl⟩:=BX.w.cs;go_wp2_with (go_at_call 228;refine(Xr.out _ _ _ _).mono ?_;rintro e w7 ⟨⟨x,y,rfl⟩,qk⟩;have NK:=X6 (BX.lR HC.out qk);clear qk c8 c9 cl;obtain⟨-,⟨-,c8,c9,-⟩,-,cl⟩:=NK.w.cs;have cz:=NK.w.qB.frozen);have DM:=X6 (NK.vT HC.out x y);exact ZQ (aCR rfl _ _ _) rfl ⟨⟨_,rfl⟩,⟨_,_,_,DM.w⟩,DM.k⟩
 obtain⟨-,-,⟨oN,-⟩,cl⟩:=HV.w.cs;obtain⟨b7,o0⟩:=HV.w.op.at_ hi;have ol:=HV.w.op.lt;go_upto_if 70 with(fail);clear oN cl o0 ol;cases b7;rotate_left
 ·skip
  as_aux_lemma=>
  have EK:=X6 (rT.out _ _ _ _ HV.w);go_upto_region 9 with(go_at_call 223;refine EK.mono ?_;rintro e w8 ⟨⟨v8,rfl⟩,⟨a8,MP,MJ,h8⟩,k8⟩;have OP:=X6 (HV.via h8 k8);clear h8 k8 HV EK)
  go_cut [] (λV=>Hid (vG C W gs s a8 MP MJ Af cf fl V));case first=>obtain⟨-,-,⟨-,-,-,BU,-⟩,cl⟩:=OP.w.cs;obtain⟨h8,o0⟩:=OP.w.h.at_ hi;have ol:=OP.w.h.lt;have oz:=OP.w.h.frozen;go_wp2_with fail;go_meet;exact X6 (OP.FI HC.out i _)
  case rest=>
  clear OP;have JM:=hcut;clear hcut;go_upto_region 10 with(fail)
  go_cut [] (λV=>∃a,Hid (vG C W gs s a MP MJ Af cf fl V));case first=>
   obtain⟨-,⟨c7,-⟩,⟨-,-,-,BU,-⟩,cl⟩:=JM.w.cs;obtain⟨h9,o0⟩:=JM.w.h.at_ hi;have ol:=JM.w.h.lt;have cz:=JM.w.qB.frozen;go_region;all_goals go_wp2_with fail
   all_goals go_meet
   all_goals exact⟨_,X6 ((JM.setAt HC.out _).drew HC.out)⟩
  case rest=>
  clear JM;obtain⟨a10,Co⟩:=hcut;obtain⟨-,⟨-,c8,c9,-⟩,-,cl⟩:=Co.w.cs;go_wp2_with (go_at_call 228;refine(Xr.out _ _ _ _).mono ?_;rintro e w7 ⟨⟨x,y,rfl⟩,qk⟩;have NK:=X6 (Co.lR HC.out qk);clear qk c8 c9 cl;obtain⟨-,⟨-,c8,c9,-⟩,-,cl⟩:=NK.w.cs;have cz:=NK.w.qB.frozen);have DM:=X6 (NK.vT HC.out x y);exact ZQ (aCR rfl _ _ _) rfl ⟨⟨_,rfl⟩,⟨_,_,_,DM.w⟩,DM.k⟩
 go_upto_if 104 with(fail);go_cut [] (λV=>∃a s1 s2,Hid (vG C W gs s a s1 s2 Af cf fl V));case first=>
  as_aux_lemma=>
  cases ef:decide (0<floor)
  ·go_wp2_with fail;go_meet;exact⟨_,_,_,HV⟩
  ·have EK:=X6 (rT.out _ _ _ _ HV.w);go_wp2_with (go_at_call 223;refine EK.mono ?_;rintro e w8 ⟨⟨v8,rfl⟩,⟨a8,MP,MJ,h8⟩,k8⟩;have OP:=X6 (HV.via h8 k8);clear h8 k8);go_meet;exact⟨_,_,_,OP⟩
 case rest=>
 clear HV;obtain⟨a3,s13,s23,HV⟩:=hcut;go_upto_region 15 with(go_at_call 193;refine(wZ.out _ _ _ _ HV.w 0 (by omega)).mono ?_;rintro e w2 ⟨⟨roof,rfl⟩,mr⟩;have qH:=X6 (HV.lR HC.out mr);clear mr)
 clear HV;go_cut [10] (λv V=>(∃x:Int,v= .int .i64 x)/\Hid (vG C W gs s a3 s13 s23 Af cf fl V));case first=>
  as_aux_lemma=>
  obtain⟨-,⟨c7,-⟩,⟨-,-,AV,-⟩,cl⟩:=qH.w.cs;obtain⟨y9,o0⟩:=qH.w.y.at_ hi;have ol:=qH.w.y.lt;go_quiet (fail);go_wp2_with fail;go_meet;exact⟨⟨_,rfl⟩,X6 (qH.lR HC.out (oQ (ZN _ _) nq))⟩
 case rest=>
 clear qH;obtain⟨⟨a4,rfl⟩,HV⟩:=hcut;have sl:=HV.s.lt;go_upto_region 17 with(first | (refine wpList_load_mid rfl 63 _ rfl gs 0 rfl (lj s) _ HV.rng underlying63 rfl (by kernel_rfl) ?_) | (go_at_call 83;refine(HHI.out _ _).mono ?_;rintro e w3 ⟨⟨h4,rfl,xG⟩,pn⟩;have BX:=X6 (HV.lR HC.out pn);clear pn xG))
 clear sl HV;go_cut [] (λV=>Hid (vG C W gs s a3 s13 s23 Af cf fl V));case first=>
  as_aux_lemma=>
  obtain⟨-,-,⟨-,-,-,BU,-⟩,cl⟩:=BX.w.cs;obtain⟨h8,o0⟩:=BX.w.h.at_ hi;have ol:=BX.w.h.lt;have oz:=BX.w.h.frozen;go_wp2_with fail;go_meet;exact X6 (BX.FI HC.out i _)
 case rest=>
 clear BX;have HV:=hcut;clear hcut;go_upto_region 18 with(fail)
 go_cut [150] (λv V=>(∃b:Bool,v= .bool b)/\Hid (vG C W gs s a3 s13 s23 Af cf fl V));case first=>
  as_aux_lemma=>
  have y6:=HV.s.get 6 (v:= .int .u8 s.h.k) rfl;have sl:=HV.s.lt;cases e1:(s.h.k == 0)
  ·go_wp2_with fail;go_meet;exact⟨⟨_,rfl⟩,HV⟩
  ·cases e2:(h4 == a4)
   ·go_wp2_with fail;go_meet;exact⟨⟨_,rfl⟩,HV⟩
   ·go_wp2_with fail;go_meet;exact⟨⟨_,rfl⟩,HV⟩
 case rest=>
 clear HV;obtain⟨⟨b5,rfl⟩,HV⟩:=hcut;cases b5
 ·skip
  as_aux_lemma=>
  go_upto_region 20 with(fail);go_cut [] (λV=>∃a,Hid (vG C W gs s a s13 s23 Af cf fl V));case first=>
   obtain⟨-,⟨c7,-⟩,⟨-,-,AV,BU,-⟩,cl⟩:=HV.w.cs;obtain⟨h9,o0⟩:=HV.w.h.at_ hi;obtain⟨y9,o1⟩:=HV.w.y.at_ hi;have ol:=HV.w.h.lt;have ol1:=HV.w.y.lt;have cz:=HV.w.qB.frozen;go_region;all_goals go_wp2_with fail
   all_goals go_meet
   all_goals exact⟨_,X6 ((HV.setAt HC.out _).drew HC.out)⟩
  case rest=>
  clear HV;obtain⟨a10,Co⟩:=hcut;obtain⟨-,⟨-,c8,c9,-⟩,-,cl⟩:=Co.w.cs;go_wp2_with (go_at_call 228;refine(Xr.out _ _ _ _).mono ?_;rintro e w7 ⟨⟨x,y,rfl⟩,qk⟩;have NK:=X6 (Co.lR HC.out qk);clear qk c8 c9 cl;obtain⟨-,⟨-,c8,c9,-⟩,-,cl⟩:=NK.w.cs;have cz:=NK.w.qB.frozen);have DM:=X6 (NK.vT HC.out x y);go_end0;exact⟨⟨_,rfl⟩,⟨_,_,_,DM.w⟩,DM.k⟩
 ·skip
  as_aux_lemma=>
  obtain⟨-,⟨-,c8,c9,-⟩,-,cl⟩:=HV.w.cs;go_wp2_with (go_at_call 228;refine(Xr.out _ _ _ _).mono ?_;rintro e w7 ⟨⟨x,y,rfl⟩,qk⟩;have NK:=X6 (HV.lR HC.out qk);clear qk c8 c9 cl;obtain⟨-,⟨-,c8,c9,-⟩,-,cl⟩:=NK.w.cs;have cz:=NK.w.qB.frozen);have DM:=X6 (NK.vT HC.out x y);exact ZQ (aCR rfl _ _ _) rfl ⟨⟨_,rfl⟩,⟨_,_,_,DM.w⟩,DM.k⟩
end
end Go.Proofs.YtjhingednpjogaaGreat
