/- Lemmas for ValidRoom; laid together by a program. -/
import Derived.Test.YtjhingednpjogaaGreatQct
set_option linter.all false
set_option maxHeartbeats 40000000
namespace Go.Proofs.YtjhingednpjogaaGreat
open Go.Proofs.Tryz
open Go.RowKit
attribute [local go_sem] lp yY yB
set_option maxRecDepth 1000000 in
theorem qsw_D(C:Qx)(W w9:World)(f b q gs:Nat)(x rt above below:Int)(s:me)(a s1 s2:Int)(Af:Option Addr)(cf:Nat)(qw:List Fl)(HC:Hid (nJ C))(tU:Hid (q<C.l.length))(HBQ:Hid (0<q))(xX:Hid (qw.length+ny C.l f q<=65535))(SY:Hid (0<ny C.l f q))(HV:Hid (pj C W [(gs,63,(lj s).toArray)] a s1 s2 Af cf qw w9))(Tx:(s.float == 0)=true)(er:mZ C.l q=false)(HBF:Hid (C.l.length<=q+f))(R3:Hid (∀(x a s1 s2:Int) (Af:Option Addr) (cf:Nat) (fl:List Fl) (W:World),nT C a s1 s2 Af cf fl W->fl.length+ny C.l f q<=65536->Calls prog 194 #[.pointer C.bw,q,x] W λe w'=>(∃v,e= .returned v)/\CoQ C W (fl.length+ny C.l f q) w')): SwT C W w9 f q gs x rt above below qw:=by
 unfold SwT
 intros
 rename_i Qn HQ;let HBP:(Ending->World->Prop)->Exit->Act->World->Prop:=bodyPost prog f194;have KQ:(q:Int)<(C.l.length:Int):=by have:=tU.out;omega
 have pW:=tU.out;have SV:=X6 (λa s1 s2 Af cf fl W (h:nT C a s1 s2 Af cf fl W)=>rP C a s1 s2 Af cf fl W HC.out h);have HUS:=X6 (λa s1 s2 Af cf fl W (h:nT C a s1 s2 Af cf fl W) i=>sN C a s1 s2 Af cf fl W HC.out h i);have Vj:=X6 (λa s1 s2 Af cf fl W (h:nT C a s1 s2 Af cf fl W) i=>CQ C a s1 s2 Af cf fl W HC.out h i);have rT:=X6 (λa s1 s2 Af cf fl W (h:nT C a s1 s2 Af cf fl W)=>rY C a s1 s2 Af cf fl W HC.out h);have Xr:=X6 (λx y z W=>uN x y z W);have Cb:=X6 (λa s1 s2 Af cf fl W (h:nT C a s1 s2 Af cf fl W) (hn:fl.length<=65536) sd y=>td fl Af cf W sd y hn (Reads.mo h.fo));have yT:=X6 (λa s1 s2 Af cf fl W (h:nT C a s1 s2 Af cf fl W)=>qc C.l C.A C.A2 C.c C.adv.length C.c2 C.view W q pW HC.n.2 ((HC.tr.nd.below h.b).more h.b.size) (HC.qt.uv _ (YJ pW)));have wZ:=X6 (λa s1 s2 Af cf fl W (h:nT C a s1 s2 Af cf fl W) e he=>rN C a s1 s2 Af cf fl W HC.out h q pW e he);have TO:=X6 (λa s1 s2 Af cf fl W (h:nT C a s1 s2 Af cf fl W)=>sM C a s1 s2 Af cf fl W HC.out h q pW);have HLV:=X6 (λa s1 s2 Af cf fl W (h:nT C a s1 s2 Af cf fl W) below=>vB C a s1 s2 Af cf fl W HC.out h q pW below);clear pW;have y2:=HV.hd.get 2 (v:= .int .u8 s.float) rfl;have yl:=HV.hd.lt;conv=>arg 2;whnf
 have Zq:(s.float != 0)=false:=by simp[bne,Tx]
 go_upto_region 38 with(fail);clear y2 yl;obtain⟨⟨c0,c1,c2,-⟩,-,-,cl⟩:=HV.w.cs;as_aux_lemma=>
 go_upto_region 15 with(go_at_call 31;refine(yT.out _ _ _ _ _ _ _ HV.w).mono ?_;rintro e LV ⟨rfl,uQ⟩;dsimp only;rw[er];have D7:=X6 (HV.lR HC.out uQ);clear uQ c0 c1 c2 cl);clear HV;obtain⟨-,⟨-,c8,c9,-⟩,-,cl⟩:=D7.w.cs;as_aux_lemma=>
 go_upto_region 16 with(go_at_call 228;refine(Xr.out _ _ _ _).mono ?_;rintro e wj ⟨⟨jx,jy,rfl⟩,Vc⟩;dsimp only;have zQ:=X6 (D7.lR HC.out Vc);clear Vc c8 c9 cl;obtain⟨-,⟨-,c8,c9,-⟩,-,cl⟩:=zQ.w.cs;have cz:=zQ.w.qB.frozen);have EL:=X6 (zQ.vT HC.out jx jy);clear c8 c9 cl cz D7 zQ;generalize World.setCell (World.setCell _ _ _) _ _=w14 at EL⊢;refine wp_region_held_drew (S:=λV=>pj C W [(gs,63,(lj s).toArray)] a jx jy Af cf qw V) (by kernel_rfl) (EL.drew HC.out) (λhS=>?_);refine nk [0,1,2,3,4,5,6,7] ?_;iterate 8
  refine tk hS (y:=by intro W' lr;obtain⟨-,-,⟨-,uT,-⟩,cl⟩:=lr.w.cs;go_simp;rfl) (h:=?_)
 refine np ?_;refine mV 8 (λK hK=>?_);go_simp;refine(HUS.out _ _ _ _ _ _ _ hS.w q).mono ?_;rintro e w9 ⟨⟨u1,u2,u3,rfl⟩,mH⟩;refine ky hK (hS.lR HC.out mH) λhS=>?_;clear hK;refine nk [9,10,11] ?_;iterate 3
  refine tk hS (y:=by intro W' lr;obtain⟨-,-,⟨-,uT,-⟩,cl⟩:=lr.w.cs;go_simp;rfl) (h:=?_)
 refine np ?_;refine mV 12 (λK hK=>?_);obtain⟨o8v,o8⟩:=hS.w.x.at_ tU.out;have Kv:=hS.w.x.lt;have MV:=hS.w.x.frozen;go_simp;clear o8 Kv MV;refine ky hK (hS.LQ HC.out q _) λhS=>?_;clear hK;refine nR ?_;have FP:=X6 hS;clear hS EL;as_aux_lemma=>
 go_upto_region 17 with(fail);refine wp_region_held_drew (S:=λV=>pj C W [(gs,63,(lj s).toArray)] a jx jy Af cf qw V) (by kernel_rfl) (FP.drew HC.out) (λhS=>?_);refine nk [0,1,2,3,4,5,6] ?_;iterate 7
  refine tk hS (y:=by intro W' lr;obtain⟨-,⟨-,-,-,tF⟩,-,cl⟩:=lr.w.cs;have y3:=lr.hd.get 3 (v:= .int .u8 s.clear) rfl;have yl:=lr.hd.lt;go_simp;rfl) (h:=?_)
 refine np ?_;refine mV 7 (λK hK=>?_);go_simp;refine(SV.out _ _ _ _ _ _ _ hS.w).mono ?_;rintro e w9 ⟨⟨mk0,rfl⟩,mH⟩;refine ky hK (hS.lR HC.out mH) λhS=>?_;clear hK;refine mV 8 (λK hK=>?_);go_simp;refine(Cb.out _ _ _ _ _ _ _ hS.w (by have:=xX.out;omega) _ _).mono ?_;rintro e w9 ⟨⟨yc,rfl⟩,mH⟩;refine ky hK (hS.lR HC.out mH) λhS=>?_;clear hK;refine nk [9] ?_;refine tk hS (y:=by intro W' lr;obtain⟨-,⟨-,-,-,tF⟩,-,cl⟩:=lr.w.cs;have y3:=lr.hd.get 3 (v:= .int .u8 s.clear) rfl;have yl:=lr.hd.lt;go_simp;rfl) (h:=?_);refine np ?_;refine nR ?_;have rz:=X6 hS;clear hS FP;as_aux_lemma=>
 go_upto_block 3 with(fail);go_cut [] (λV=>∃a s1 s2,Hid (pj C W [(gs,63,(lj s).toArray)] a s1 s2 Af cf qw V));case first=>
  as_aux_lemma=>
  go_upto_if 152 with(go_at_call 133;refine(SV.out _ _ _ _ _ _ _ rz.w).mono ?_;rintro e w17 ⟨⟨mk,rfl⟩,hb17⟩;dsimp only;have uU:=X6 (rz.lR HC.out hb17);clear hb17);clear rz;cases e1:decide (mk<yc);rotate_left
  ·have EK:=X6 (rT.out _ _ _ _ _ _ _ uU.w);go_upto_region 21 with(go_at_call 223;refine EK.mono ?_;rintro e w8 ⟨⟨v8,rfl⟩,⟨a8,MP,MJ,h8⟩,k8⟩;dsimp only;have vq:=X6 (uU.via h8 k8);clear h8 k8)
   clear uU EK;obtain⟨-,⟨c7,-⟩,-,cl⟩:=vq.w.cs;have cz:=vq.w.qB.frozen;go_upto_region 22 with(fail)
   have yJ:=X6 (vq.setAt HC.out yc);clear c7 cl cz vq;generalize World.setCell _ _ _=w19 at yJ⊢;obtain⟨-,⟨c7,-⟩,⟨-,-,AV,-⟩,cl⟩:=yJ.w.cs;obtain⟨x9,o0⟩:=yJ.w.y.at_ tU.out;have ol:=yJ.w.y.lt;have oz:=yJ.w.y.frozen;go_region;all_goals go_wp2_with fail
   all_goals go_meet
   all_goals exact⟨_,_,_,X6 ((yJ.Ew HC.out q _).drew HC.out)⟩
  ·go_upto_if 173 with(go_at_call 193;refine(wZ.out _ _ _ _ _ _ _ uU.w 0 (by omega)).mono ?_;rintro e w18 ⟨⟨sd,rfl⟩,hb18⟩;dsimp only;have vq:=X6 (uU.lR HC.out hb18);clear hb18);clear uU;cases e2:decide (0<sd)
   ·obtain⟨-,-,⟨oN,-⟩,cl⟩:=vq.w.cs;obtain⟨b9,o0⟩:=vq.w.op.at_ tU.out;have ol:=vq.w.op.lt;have oz:=vq.w.op.frozen;go_wp2_with fail;go_meet;exact⟨_,_,_,X6 (vq.Oh HC.out q true)⟩
   ·have EK:=X6 (rT.out _ _ _ _ _ _ _ vq.w);go_upto_region 25 with(go_at_call 223;refine EK.mono ?_;rintro e w8 ⟨⟨v8,rfl⟩,⟨a8,MP,MJ,h8⟩,k8⟩;dsimp only;have yJ:=X6 (vq.via h8 k8);clear h8 k8)
    clear vq EK;obtain⟨-,⟨c7,-⟩,⟨-,-,AV,-⟩,cl⟩:=yJ.w.cs;obtain⟨x9,o0⟩:=yJ.w.y.at_ tU.out;have ol:=yJ.w.y.lt;have oz:=yJ.w.y.frozen;go_region;all_goals go_wp2_with fail
    all_goals go_meet
    all_goals exact⟨_,_,_,X6 ((yJ.Ew HC.out q _).drew HC.out)⟩
 case rest=>
 clear rz;obtain⟨a20,s120,s220,IT⟩:=hcut;obtain⟨-,-,⟨oN,-⟩,cl⟩:=IT.w.cs;obtain⟨b20,o0⟩:=IT.w.op.at_ tU.out;have ol:=IT.w.op.lt;as_aux_lemma=>
 go_upto_if 197 with(fail);clear oN cl o0 ol;go_cut [] (λV=>∃a,Hid (pj C W [(gs,63,(lj s).toArray)] a s120 s220 Af cf qw V));case first=>
  cases b20
  rotate_left
  ·go_wp2_with fail;go_meet;exact⟨_,IT⟩
  ·go_upto_region 27 with(fail);refine wp_region_held_drew (S:=λV=>∃a,pj C W [(gs,63,(lj s).toArray)] a s120 s220 Af cf qw V) (by kernel_rfl) (⟨a20,IT.drew HC.out⟩) (λhS=>?_);refine nk [0,1,2,3,5,6] ?_;iterate 6
    refine tk hS (y:=by intro W' lr;obtain⟨a9,hV⟩:=lr;obtain⟨-,-,-,cl⟩:=hV.w.cs;go_simp;rfl) (h:=?_)
   refine np ?_;refine J0 4 7 (λK hK=>?_) (λK hK=>?_)
   ·skip
    obtain⟨Ze,hV⟩:=hS;obtain⟨-,⟨c7,-⟩,-,cl⟩:=hV.w.cs;go_simp;refine ky hK ⟨Ze,hV⟩ λhS=>?_;clear hK;refine mV 7 (λK hK=>?_);go_simp;obtain⟨ac,hVc⟩:=hS;refine(wZ.out _ _ _ _ _ _ _ hVc.w 0 (by omega)).mono ?_;rintro e w9 ⟨⟨sd9,rfl⟩,mH⟩;refine ky hK ⟨ac,hVc.lR HC.out mH⟩ λhS=>?_;clear hK;refine nk [8,9,10] ?_;iterate 3
     refine tk hS (y:=by intro W' lr;obtain⟨a9,hV⟩:=lr;obtain⟨-,-,-,cl⟩:=hV.w.cs;go_simp;rfl) (h:=?_)
    refine np ?_;refine mV 11 (λK hK=>?_);obtain⟨aas,Ip⟩:=hS;obtain⟨-,⟨c7,-⟩,-,cl⟩:=Ip.w.cs;have cz:=Ip.w.qB.frozen;go_simp;clear c7 cl cz;refine ky hK ⟨_,Ip.setAt HC.out _⟩ λhS=>?_;clear hK;refine nR ?_;obtain⟨a21,TS⟩:=hS;have DC:=X6 TS;clear TS;go_wp2_with fail;go_meet;exact⟨_,DC⟩
   ·skip
    go_simp;obtain⟨ac,hVc⟩:=hS;refine(wZ.out _ _ _ _ _ _ _ hVc.w 0 (by omega)).mono ?_;rintro e w9 ⟨⟨sd9,rfl⟩,mH⟩;refine ky hK ⟨ac,hVc.lR HC.out mH⟩ λhS=>?_;clear hK;refine mV 4 (λK hK=>?_);obtain⟨Ze,hV⟩:=hS;obtain⟨-,⟨c7,-⟩,-,cl⟩:=hV.w.cs;go_simp;refine ky hK ⟨Ze,hV⟩ λhS=>?_;clear hK;refine nk [8,9,10] ?_;iterate 3
     refine tk hS (y:=by intro W' lr;obtain⟨a9,hV⟩:=lr;obtain⟨-,-,-,cl⟩:=hV.w.cs;go_simp;rfl) (h:=?_)
    refine np ?_;refine mV 11 (λK hK=>?_);obtain⟨aas,Ip⟩:=hS;obtain⟨-,⟨c7,-⟩,-,cl⟩:=Ip.w.cs;have cz:=Ip.w.qB.frozen;go_simp;clear c7 cl cz;refine ky hK ⟨_,Ip.setAt HC.out _⟩ λhS=>?_;clear hK;refine nR ?_;obtain⟨a21,TS⟩:=hS;have DC:=X6 TS;clear TS;go_wp2_with fail;go_meet;exact⟨_,DC⟩
 case rest=>
 clear IT;obtain⟨a22,HV22⟩:=hcut;as_aux_lemma=>
 go_upto_region 28 with(fail);go_cut [] (λV=>∃(a s1 s2:Int) (Af:Option Addr) (cf:Nat) (I5:List Fl),Hid (pj C W [(gs,63,(lj s).toArray)] a s1 s2 Af cf I5 V/\I5.length+1<=qw.length+ny C.l f q));case first=>
  as_aux_lemma=>
  have zE:=X6 (HV22.drew HC.out);refine wp_region_held_drew (S:=λV=>∃a s1 s2 Af cf I5,pj C W [(gs,63,(lj s).toArray)] a s1 s2 Af cf I5 V/\I5.length+1<=qw.length+ny C.l f q) (by kernel_rfl) (⟨_,_,_,_,_,_,zE.out,by have:=SY.out;omega⟩) (λhS=>?_);refine nk [0,1,2,3,4,5,6,7,9,10] ?_;iterate 10
   refine tk hS (y:=by intro W' lr;obtain⟨a9,s19,s29,Af9,cf9,fl9,hV,-⟩:=lr;obtain⟨-,-,⟨-,uT,-⟩,cl⟩:=hV.w.cs;go_simp;rfl) (h:=?_)
  refine np ?_;refine J0 8 11 (λK hK=>?_) (λK hK=>?_)
  ·skip
   obtain⟨x8,o8⟩:=zE.w.x.at_ tU.out;have Kv:=zE.w.x.lt;go_simp;refine ky hK hS λhS=>?_;clear hK;refine mV 11 (λK hK=>?_);go_simp;refine(wZ.out _ _ _ _ _ _ _ zE.w 3 (by omega)).mono ?_;rintro e w9 ⟨⟨sd9,rfl⟩,mH⟩
   replace zE:=X6 (zE.lR HC.out mH)
   clear mH;refine ky hK ⟨_,_,_,_,_,_,zE.out,by have:=SY.out;omega⟩ λhS=>?_;clear hK;refine nk [12] ?_;refine tk hS (y:=by intro W' lr;obtain⟨a9,s19,s29,Af9,cf9,fl9,hV,-⟩:=lr;obtain⟨-,-,⟨-,uT,-⟩,cl⟩:=hV.w.cs;go_simp;rfl) (h:=?_);refine np ?_;refine mV 13 (λK hK=>?_);go_simp;refine(R3.out _ _ _ _ _ _ _ _ zE.w (by have:=xX.out;omega)).mono ?_;rintro e sy ⟨⟨v10,rfl⟩,XK⟩;obtain⟨a10,s110,s210,Af10,cf10,fl10,zK,hf10⟩:=XK.ex;refine ky hK ⟨_,_,_,_,_,_,zE.via zK XK.k,hf10⟩ λhS=>?_;clear hK;refine nR ?_;obtain⟨a30,s130,s230,Af30,cf30,Zv,h30,TX⟩:=hS;have Qy:=X6 (And.intro h30 TX);clear h30 TX;go_wp2_with fail;go_meet;exact⟨_,_,_,_,_,_,Qy⟩
  ·skip
   go_simp;refine(wZ.out _ _ _ _ _ _ _ zE.w 3 (by omega)).mono ?_;rintro e w9 ⟨⟨sd9,rfl⟩,mH⟩
   replace zE:=X6 (zE.lR HC.out mH)
   clear mH;refine ky hK ⟨_,_,_,_,_,_,zE.out,by have:=SY.out;omega⟩ λhS=>?_;clear hK;refine mV 8 (λK hK=>?_);obtain⟨x8,o8⟩:=zE.w.x.at_ tU.out;have Kv:=zE.w.x.lt;go_simp;refine ky hK hS λhS=>?_;clear hK;refine nk [12] ?_;refine tk hS (y:=by intro W' lr;obtain⟨a9,s19,s29,Af9,cf9,fl9,hV,-⟩:=lr;obtain⟨-,-,⟨-,uT,-⟩,cl⟩:=hV.w.cs;go_simp;rfl) (h:=?_);refine np ?_;refine mV 13 (λK hK=>?_);go_simp;refine(R3.out _ _ _ _ _ _ _ _ zE.w (by have:=xX.out;omega)).mono ?_;rintro e sy ⟨⟨v10,rfl⟩,XK⟩;obtain⟨a10,s110,s210,Af10,cf10,fl10,zK,hf10⟩:=XK.ex;refine ky hK ⟨_,_,_,_,_,_,zE.via zK XK.k,hf10⟩ λhS=>?_;clear hK;refine nR ?_;obtain⟨a30,s130,s230,Af30,cf30,Zv,h30,TX⟩:=hS;have Qy:=X6 (And.intro h30 TX);clear h30 TX;go_wp2_with fail;go_meet;exact⟨_,_,_,_,_,_,Qy⟩
 case rest=>
 clear HV22;obtain⟨a30,s130,s230,Af30,cf30,Zv,VT⟩:=hcut;have Qy:=X6 VT.1;have HF30:=X6 VT.2;clear VT;go_wp2_with (go_at_call 229;refine(HLV.out _ _ _ _ _ _ _ Qy.w below).mono ?_;rintro e w31 ⟨⟨v31,rfl⟩,⟨a31,s131,s231,h31⟩,k31⟩;dsimp only;have HV31:=X6 (Qy.via h31 k31);clear h31 k31);have Uq:Hid (pj C W [] a31 s131 s231 Af30 cf30 Zv w31/\Zv.length<=qw.length+ny C.l f q):=X6 ⟨HV31.pop,by have h3:=HF30.out;omega⟩;go_wp2_with fail;exact HQ.out _ ⟨_,_,_,_,_,_,Uq.out⟩
end Go.Proofs.YtjhingednpjogaaGreat
