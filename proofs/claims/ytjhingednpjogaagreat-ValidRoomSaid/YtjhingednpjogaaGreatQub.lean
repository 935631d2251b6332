/- Lemmas for ValidRoom; laid together by a program. -/
import Derived.Test.YtjhingednpjogaaGreatQct
set_option linter.all false
set_option maxHeartbeats 40000000
namespace Go.Proofs.YtjhingednpjogaaGreat
open Go.Proofs.Tryz
open Go.RowKit
attribute [local go_sem] lp yY yB
set_option maxRecDepth 1000000 in
theorem qsw_B(C:Qx)(W w9:World)(f b q gs:Nat)(x rt above below:Int)(s:me)(a s1 s2:Int)(Af:Option Addr)(cf:Nat)(qw:List Fl)(HC:Hid (nJ C))(tU:Hid (q<C.l.length))(HBQ:Hid (0<q))(xX:Hid (qw.length+ny C.l f q<=65535))(SY:Hid (0<ny C.l f q))(HV:Hid (pj C W [(gs,63,(lj s).toArray)] a s1 s2 Af cf qw w9))(Tx:(s.float == 0)=true)(er:mZ C.l q=true): SwT C W w9 f q gs x rt above below qw:=by
 unfold SwT
 intros
 rename_i Qn HQ;let HBP:(Ending->World->Prop)->Exit->Act->World->Prop:=bodyPost prog f194;have KQ:(q:Int)<(C.l.length:Int):=by have:=tU.out;omega
 have pW:=tU.out;have SV:=X6 (λa s1 s2 Af cf fl W (h:nT C a s1 s2 Af cf fl W)=>rP C a s1 s2 Af cf fl W HC.out h);have HUS:=X6 (λa s1 s2 Af cf fl W (h:nT C a s1 s2 Af cf fl W) i=>sN C a s1 s2 Af cf fl W HC.out h i);have Vj:=X6 (λa s1 s2 Af cf fl W (h:nT C a s1 s2 Af cf fl W) i=>CQ C a s1 s2 Af cf fl W HC.out h i);have rT:=X6 (λa s1 s2 Af cf fl W (h:nT C a s1 s2 Af cf fl W)=>rY C a s1 s2 Af cf fl W HC.out h);have Xr:=X6 (λx y z W=>uN x y z W);have Cb:=X6 (λa s1 s2 Af cf fl W (h:nT C a s1 s2 Af cf fl W) (hn:fl.length<=65536) sd y=>td fl Af cf W sd y hn (Reads.mo h.fo));have yT:=X6 (λa s1 s2 Af cf fl W (h:nT C a s1 s2 Af cf fl W)=>qc C.l C.A C.A2 C.c C.adv.length C.c2 C.view W q pW HC.n.2 ((HC.tr.nd.below h.b).more h.b.size) (HC.qt.uv _ (YJ pW)));have wZ:=X6 (λa s1 s2 Af cf fl W (h:nT C a s1 s2 Af cf fl W) e he=>rN C a s1 s2 Af cf fl W HC.out h q pW e he);have TO:=X6 (λa s1 s2 Af cf fl W (h:nT C a s1 s2 Af cf fl W)=>sM C a s1 s2 Af cf fl W HC.out h q pW);have HLV:=X6 (λa s1 s2 Af cf fl W (h:nT C a s1 s2 Af cf fl W) below=>vB C a s1 s2 Af cf fl W HC.out h q pW below);clear pW;have y2:=HV.hd.get 2 (v:= .int .u8 s.float) rfl;have yl:=HV.hd.lt;conv=>arg 2;whnf
 have Zq:(s.float != 0)=false:=by simp[bne,Tx]
 go_upto_region 38 with(fail);clear y2 yl;obtain⟨⟨c0,c1,c2,-⟩,-,-,cl⟩:=HV.w.cs;as_aux_lemma=>
 go_upto_region 39 with(go_at_call 31;refine(yT.out _ _ _ _ _ _ _ HV.w).mono ?_;rintro e LV ⟨rfl,uQ⟩;dsimp only;rw[er];have D7:=X6 (HV.lR HC.out uQ);clear uQ c0 c1 c2 cl);clear HV;obtain⟨-,⟨-,c8,c9,-⟩,-,cl⟩:=D7.w.cs;as_aux_lemma=>
 go_upto_region 40 with(go_at_call 228;refine(Xr.out _ _ _ _).mono ?_;rintro e wj ⟨⟨jx,jy,rfl⟩,Vc⟩;dsimp only;have zQ:=X6 (D7.lR HC.out Vc);clear Vc c8 c9 cl;obtain⟨-,⟨-,c8,c9,-⟩,-,cl⟩:=zQ.w.cs;have cz:=zQ.w.qB.frozen);have EL:=X6 (zQ.vT HC.out jx jy);clear c8 c9 cl cz D7 zQ;generalize World.setCell (World.setCell _ _ _) _ _=w14 at EL⊢;have EK:=X6 (rT.out _ _ _ _ _ _ _ EL.w);as_aux_lemma=>
 go_upto_region 41 with(go_at_call 223;refine EK.mono ?_;rintro e w8 ⟨⟨v8,rfl⟩,⟨a8,MP,MJ,h8⟩,k8⟩;dsimp only;have FP:=X6 (EL.via h8 k8);clear h8 k8);clear EL EK;refine wp_region_held_drew (S:=λV=>∃a,pj C W [(gs,63,(lj s).toArray)] a MP MJ Af cf qw V) (by kernel_rfl) (⟨a8,FP.drew HC.out⟩) (λhS=>?_);refine nk [0,1,2,3,4,5,6,7] ?_;iterate 8
  refine tk hS (y:=by intro W' lr;obtain⟨a9,hV⟩:=lr;obtain⟨-,⟨-,-,-,tF⟩,-,cl⟩:=hV.w.cs;go_simp;rfl) (h:=?_)
 refine np ?_;refine mV 8 (λK hK=>?_);obtain⟨Ze,hV⟩:=hS;obtain⟨-,⟨c7,-⟩,-,cl⟩:=hV.w.cs;go_simp;refine ky hK ⟨Ze,hV⟩ λhS=>?_;clear hK;refine mV 9 (λK hK=>?_);go_simp;obtain⟨ac,hVc⟩:=hS;refine(Cb.out _ _ _ _ _ _ _ hVc.w (by have:=xX.out;omega) _ _).mono ?_;rintro e w9 ⟨⟨yc,rfl⟩,mH⟩;refine ky hK ⟨ac,hVc.lR HC.out mH⟩ λhS=>?_;clear hK;refine nk [10,11] ?_;iterate 2
  refine tk hS (y:=by intro W' lr;obtain⟨a9,hV⟩:=lr;obtain⟨-,⟨-,-,-,tF⟩,-,cl⟩:=hV.w.cs;go_simp;rfl) (h:=?_)
 refine np ?_;refine mV 12 (λK hK=>?_);obtain⟨aas,Ip⟩:=hS;obtain⟨-,⟨c7,-⟩,-,cl⟩:=Ip.w.cs;have cz:=Ip.w.qB.frozen;go_simp;clear c7 cl cz;refine ky hK ⟨_,Ip.setAt HC.out _⟩ λhS=>?_;clear hK;refine nR ?_;obtain⟨a16,h16⟩:=hS;have rz:=X6 h16;clear h16 FP;as_aux_lemma=>
 go_upto_region 42 with(fail);refine wp_region_held_drew (S:=λV=>pj C W [(gs,63,(lj s).toArray)] a16 MP MJ Af cf qw V) (by kernel_rfl) (rz.drew HC.out) (λhS=>?_);refine nk [0,1,2,3,4,5,6,7] ?_;iterate 8
  refine tk hS (y:=by intro W' lr;obtain⟨-,-,⟨-,uT,-⟩,cl⟩:=lr.w.cs;go_simp;rfl) (h:=?_)
 refine np ?_;refine mV 8 (λK hK=>?_);go_simp;refine(HUS.out _ _ _ _ _ _ _ hS.w q).mono ?_;rintro e w9 ⟨⟨u1,u2,u3,rfl⟩,mH⟩;refine ky hK (hS.lR HC.out mH) λhS=>?_;clear hK;refine nk [9,10,11] ?_;iterate 3
  refine tk hS (y:=by intro W' lr;obtain⟨-,-,⟨-,uT,-⟩,cl⟩:=lr.w.cs;go_simp;rfl) (h:=?_)
 refine np ?_;refine mV 12 (λK hK=>?_);obtain⟨o8v,o8⟩:=hS.w.x.at_ tU.out;have Kv:=hS.w.x.lt;have MV:=hS.w.x.frozen;go_simp;clear o8 Kv MV;refine ky hK (hS.LQ HC.out q _) λhS=>?_;clear hK;refine nR ?_;have uU:=X6 hS;clear hS rz;as_aux_lemma=>
 go_upto_region 43 with(fail);refine wp_region_held_drew (S:=λV=>pj C W [(gs,63,(lj s).toArray)] a16 MP MJ Af cf qw V) (by kernel_rfl) (uU.drew HC.out) (λhS=>?_);refine nk [0,1,2,3,4,5,6,7,8,9] ?_;iterate 10
  refine tk hS (y:=by intro W' lr;obtain⟨-,⟨c7,-⟩,⟨-,-,AV,-⟩,cl⟩:=lr.w.cs;go_simp;rfl) (h:=?_)
 refine np ?_;refine mV 10 (λK hK=>?_);obtain⟨o8v,o8⟩:=hS.w.y.at_ tU.out;have Kv:=hS.w.y.lt;have MV:=hS.w.y.frozen;go_simp;clear o8 Kv MV;refine ky hK (hS.Ew HC.out q _) λhS=>?_;clear hK;refine nR ?_;have vq:=X6 hS;clear hS uU;as_aux_lemma=>
 go_upto_region 44 with(fail);refine wp_region_held_drew (S:=λV=>pj C W [(gs,63,(lj s).toArray)] a16 MP MJ Af cf qw V) (by kernel_rfl) (vq.drew HC.out) (λhS=>?_);refine nk [0,1,2,3,4,5,6] ?_;iterate 7
  refine tk hS (y:=by intro W' lr;obtain⟨-,-,⟨-,-,-,BU,-⟩,cl⟩:=lr.w.cs;go_simp;rfl) (h:=?_)
 refine np ?_;refine mV 7 (λK hK=>?_);go_simp;refine(Vj.out _ _ _ _ _ _ _ hS.w q).mono ?_;rintro e w9 ⟨⟨hi9,rfl⟩,mH⟩;refine ky hK (hS.lR HC.out mH) λhS=>?_;clear hK;refine nk [8] ?_;refine tk hS (y:=by intro W' lr;obtain⟨-,-,⟨-,-,-,BU,-⟩,cl⟩:=lr.w.cs;go_simp;rfl) (h:=?_);refine np ?_;refine mV 9 (λK hK=>?_);obtain⟨o8v,o8⟩:=hS.w.h.at_ tU.out;have Kv:=hS.w.h.lt;have MV:=hS.w.h.frozen;go_simp;clear o8 Kv MV;refine ky hK (hS.FI HC.out q hi9) λhS=>?_;clear hK;refine nR ?_;have yJ:=X6 hS;clear hS vq;as_aux_lemma=>
 go_upto_region 45 with(fail);go_cut [] (λV=>∃a,Hid (pj C W [(gs,63,(lj s).toArray)] a MP MJ Af cf qw V));case first=>
  as_aux_lemma=>
  refine wp_region_held_drew (S:=λV=>∃a,pj C W [(gs,63,(lj s).toArray)] a MP MJ Af cf qw V) (by kernel_rfl) (⟨a16,yJ.drew HC.out⟩) (λhS=>?_);refine nk [0,1,2,3,5,6,7,8,9,10] ?_;iterate 10
   refine tk hS (y:=by intro W' lr;obtain⟨a9,hV⟩:=lr;obtain⟨-,-,⟨-,-,-,BU,-⟩,cl⟩:=hV.w.cs;go_simp;rfl) (h:=?_)
  refine np ?_;refine J0 4 11 (λK hK=>?_) (λK hK=>?_)
  ·skip
   obtain⟨Ze,hV⟩:=hS;obtain⟨-,⟨c7,-⟩,-,cl⟩:=hV.w.cs;go_simp;refine ky hK ⟨Ze,hV⟩ λhS=>?_;clear hK;refine mV 11 (λK hK=>?_);obtain⟨ah,hVh⟩:=hS;obtain⟨h9,o0⟩:=hVh.w.h.at_ tU.out;have ol:=hVh.w.h.lt;go_simp;clear o0 ol;refine ky hK ⟨ah,hVh⟩ λhS=>?_;clear hK;refine nk [12,13,14] ?_;iterate 3
    refine tk hS (y:=by intro W' lr;obtain⟨a9,hV⟩:=lr;obtain⟨-,-,⟨-,-,-,BU,-⟩,cl⟩:=hV.w.cs;go_simp;rfl) (h:=?_)
   refine np ?_;refine mV 15 (λK hK=>?_);obtain⟨aas,Ip⟩:=hS;obtain⟨-,⟨c7,-⟩,-,cl⟩:=Ip.w.cs;have cz:=Ip.w.qB.frozen;go_simp;clear c7 cl cz;refine ky hK ⟨_,Ip.setAt HC.out _⟩ λhS=>?_;clear hK;refine nR ?_;obtain⟨a21,TS⟩:=hS;have DC:=X6 TS;clear TS;go_wp2_with fail;go_meet;exact⟨_,DC⟩
  ·skip
   obtain⟨ah,hVh⟩:=hS;obtain⟨h9,o0⟩:=hVh.w.h.at_ tU.out;have ol:=hVh.w.h.lt;go_simp;clear o0 ol;refine ky hK ⟨ah,hVh⟩ λhS=>?_;clear hK;refine mV 4 (λK hK=>?_);obtain⟨Ze,hV⟩:=hS;obtain⟨-,⟨c7,-⟩,-,cl⟩:=hV.w.cs;go_simp;refine ky hK ⟨Ze,hV⟩ λhS=>?_;clear hK;refine nk [12,13,14] ?_;iterate 3
    refine tk hS (y:=by intro W' lr;obtain⟨a9,hV⟩:=lr;obtain⟨-,-,⟨-,-,-,BU,-⟩,cl⟩:=hV.w.cs;go_simp;rfl) (h:=?_)
   refine np ?_;refine mV 15 (λK hK=>?_);obtain⟨aas,Ip⟩:=hS;obtain⟨-,⟨c7,-⟩,-,cl⟩:=Ip.w.cs;have cz:=Ip.w.qB.frozen;go_simp;clear c7 cl cz;refine ky hK ⟨_,Ip.setAt HC.out _⟩ λhS=>?_;clear hK;refine nR ?_;obtain⟨a21,TS⟩:=hS;have DC:=X6 TS;clear TS;go_wp2_with fail;go_meet;exact⟨_,DC⟩
 case rest=>
 clear yJ;obtain⟨a20,IT⟩:=hcut;obtain⟨-,⟨-,c8,c9,-⟩,-,cl⟩:=IT.w.cs;go_wp2_with (go_at_call 228;refine(Xr.out _ _ _ _).mono ?_;rintro e wj ⟨⟨jx,jy,rfl⟩,Vc⟩;dsimp only;have DC:=X6 (IT.lR HC.out Vc);clear Vc c8 c9 cl;obtain⟨-,⟨-,c8,c9,-⟩,-,cl⟩:=DC.w.cs;have cz:=DC.w.qB.frozen);have Uq:Hid (pj C W [] a20 jx jy Af cf qw _/\qw.length<=qw.length+ny C.l f q):=X6 ⟨(DC.vT HC.out jx jy).pop,by omega⟩;clear c8 c9 cl cz;go_wp2_with fail;exact HQ.out _ ⟨_,_,_,_,_,_,Uq.out⟩
end Go.Proofs.YtjhingednpjogaaGreat
