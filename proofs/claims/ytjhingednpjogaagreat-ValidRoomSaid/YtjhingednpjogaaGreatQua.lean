/- Lemmas for ValidRoom; laid together by a program. -/
import Derived.Test.YtjhingednpjogaaGreatQct
set_option linter.all false
set_option maxHeartbeats 40000000
namespace Go.Proofs.YtjhingednpjogaaGreat
open Go.Proofs.Tryz
open Go.RowKit
attribute [local go_sem] lp yY yB
set_option maxRecDepth 1000000 in
theorem qsw_A(C:Qx)(W w9:World)(f b q gs:Nat)(x rt above below:Int)(s:me)(a s1 s2:Int)(Af:Option Addr)(cf:Nat)(qw:List Fl)(HC:Hid (nJ C))(tU:Hid (q<C.l.length))(HBQ:Hid (0<q))(xX:Hid (qw.length+ny C.l f q<=65535))(SY:Hid (0<ny C.l f q))(HV:Hid (pj C W [(gs,63,(lj s).toArray)] a s1 s2 Af cf qw w9))(Tx:(s.float == 0)=false): SwT C W w9 f q gs x rt above below qw:=by
 unfold SwT
 intros
 rename_i Qn HQ;let HBP:(Ending->World->Prop)->Exit->Act->World->Prop:=bodyPost prog f194;have KQ:(q:Int)<(C.l.length:Int):=by have:=tU.out;omega
 have pW:=tU.out;have SV:=X6 (λa s1 s2 Af cf fl W (h:nT C a s1 s2 Af cf fl W)=>rP C a s1 s2 Af cf fl W HC.out h);have HUS:=X6 (λa s1 s2 Af cf fl W (h:nT C a s1 s2 Af cf fl W) i=>sN C a s1 s2 Af cf fl W HC.out h i);have Vj:=X6 (λa s1 s2 Af cf fl W (h:nT C a s1 s2 Af cf fl W) i=>CQ C a s1 s2 Af cf fl W HC.out h i);have rT:=X6 (λa s1 s2 Af cf fl W (h:nT C a s1 s2 Af cf fl W)=>rY C a s1 s2 Af cf fl W HC.out h);have Xr:=X6 (λx y z W=>uN x y z W);have Cb:=X6 (λa s1 s2 Af cf fl W (h:nT C a s1 s2 Af cf fl W) (hn:fl.length<=65536) sd y=>td fl Af cf W sd y hn (Reads.mo h.fo));have yT:=X6 (λa s1 s2 Af cf fl W (h:nT C a s1 s2 Af cf fl W)=>qc C.l C.A C.A2 C.c C.adv.length C.c2 C.view W q pW HC.n.2 ((HC.tr.nd.below h.b).more h.b.size) (HC.qt.uv _ (YJ pW)));have wZ:=X6 (λa s1 s2 Af cf fl W (h:nT C a s1 s2 Af cf fl W) e he=>rN C a s1 s2 Af cf fl W HC.out h q pW e he);have TO:=X6 (λa s1 s2 Af cf fl W (h:nT C a s1 s2 Af cf fl W)=>sM C a s1 s2 Af cf fl W HC.out h q pW);have HLV:=X6 (λa s1 s2 Af cf fl W (h:nT C a s1 s2 Af cf fl W) below=>vB C a s1 s2 Af cf fl W HC.out h q pW below);clear pW;have y2:=HV.hd.get 2 (v:= .int .u8 s.float) rfl;have yl:=HV.hd.lt;conv=>arg 2;whnf
 have Zq:(s.float != 0)=true:=by simp[bne,Tx]
 go_upto_region 31 with(fail);clear y2 yl;as_aux_lemma=>
 go_upto_region 32 with(first | (go_at_call 195;refine(HUS.out _ _ _ _ _ _ _ HV.w q).mono ?_;rintro e LV ⟨⟨u1,u2,u3,rfl⟩,uQ⟩;dsimp only;have D7:=X6 (HV.lR HC.out uQ);clear uQ) | refine lJ rfl 40 _ _ rfl _ rfl #[.int .i64 u1,.int .i64 u2,.int .i64 u3] rfl rfl 40 _ (by kernel_rfl) rfl (by simp[Value.oneCell']) ?_);clear HV;have zQ:Hid (pj C W [(LV.heap.size,40,#[.int .i64 u1,.int .i64 u2,.int .i64 u3]),(gs,63,(lj s).toArray)] a s1 s2 Af cf qw (LV.alloc (.cells #[u1,u2,u3] 40))):=X6 ((D7.lR HC.out bA).push (lq.new _ _ _) D7.w.sz (by decide));obtain⟨gu,rW⟩:∃g,g=LV.heap.size:=⟨_,rfl⟩;rw[<-rW]at zQ⊢;clear rW D7;generalize World.alloc LV _=DI at zQ⊢;refine wp_region_held_drew (S:=λV=>pj C W [(gu,40,#[.int .i64 u1,.int .i64 u2,.int .i64 u3]),(gs,63,(lj s).toArray)] a s1 s2 Af cf qw V) (by kernel_rfl) (zQ.drew HC.out) (λhS=>?_);refine nk [0,1,2,3,4,5,6] ?_;iterate 7
  refine tk hS (y:=by intro W' lr;obtain⟨-,⟨-,-,-,tF⟩,-,cl⟩:=lr.w.cs;have y3:=lr.E9.get 3 (v:= .int .u8 s.clear) rfl;have yl:=lr.E9.lt;go_simp;rfl) (h:=?_)
 refine np ?_;refine mV 7 (λK hK=>?_);go_simp;refine(SV.out _ _ _ _ _ _ _ hS.w).mono ?_;rintro e w9 ⟨⟨mk,rfl⟩,mH⟩;refine ky hK (hS.lR HC.out mH) λhS=>?_;clear hK;refine mV 8 (λK hK=>?_);go_simp;refine(Cb.out _ _ _ _ _ _ _ hS.w (by have:=xX.out;omega) _ _).mono ?_;rintro e w9 ⟨⟨yc,rfl⟩,mH⟩;refine ky hK (hS.lR HC.out mH) λhS=>?_;clear hK;refine nk [9] ?_;refine tk hS (y:=by intro W' lr;obtain⟨-,⟨-,-,-,tF⟩,-,cl⟩:=lr.w.cs;have y3:=lr.E9.get 3 (v:= .int .u8 s.clear) rfl;have yl:=lr.E9.lt;go_simp;rfl) (h:=?_);refine np ?_;refine nR ?_;have EL:=X6 hS;clear hS zQ;as_aux_lemma=>
 go_upto_region 33 with(fail);go_cut [18] (λv V=>∃(ga:Nat) (F:Fl),v= .pointer ga/\Hid (pj C W [(gu,40,#[.int .i64 u1,.int .i64 u2,.int .i64 u3]),(gs,63,(lj s).toArray)] a s1 s2 Af cf qw V/\Tn C Af cf qw ga (oL F).toArray V));case first=>
  as_aux_lemma=>
  refine wp_region_held_drew (S:=λV=>pj C W [(gu,40,#[.int .i64 u1,.int .i64 u2,.int .i64 u3]),(gs,63,(lj s).toArray)] a s1 s2 Af cf qw V) (by kernel_rfl) (EL.drew HC.out) (λhS=>?_);generalize World.drew _=wd at hS⊢;refine nk [0,1,2,3,4,5,6,7,8,9,12,13,15,16,17,20,22,23,24] ?_;iterate 19
   refine tk hS (y:=by intro W' lr;obtain⟨-,⟨-,-,-,tF⟩,-,cl⟩:=lr.w.cs;have y2:=lr.E9.get 2 (v:= .int .u8 s.float) rfl;have yl:=lr.E9.lt;obtain⟨z1,z2⟩:W'.cell? (gu,1)=u2/\W'.cell? (gu,2)=u3:=⟨lr.hd.get 1 rfl,lr.hd.get 2 rfl⟩;have zl:=lr.hd.lt;go_simp;rfl) (h:=?_)
  refine np ?_;refine J0 10 26 (λK hK=>?_) (λK hK=>?_)
  ·skip
   go_simp;refine(TO.out _ _ _ _ _ _ _ hS.w).mono ?_;rintro e w9 ⟨⟨wd,rfl⟩,mH⟩;refine ky hK (hS.lR HC.out mH) λhS=>?_;clear hK mH;refine nk [11,14] ?_;iterate 2
    refine tk hS (y:=by intro W' lr;obtain⟨-,⟨-,-,-,tF⟩,-,cl⟩:=lr.w.cs;have y2:=lr.E9.get 2 (v:= .int .u8 s.float) rfl;have yl:=lr.E9.lt;obtain⟨z1,z2⟩:W'.cell? (gu,1)=u2/\W'.cell? (gu,2)=u3:=⟨lr.hd.get 1 rfl,lr.hd.get 2 rfl⟩;have zl:=lr.hd.lt;go_simp;rfl) (h:=?_)
   refine np ?_;refine J0 18 26 (λK hK=>?_) (λK hK=>?_)
   ·skip
    go_simp;refine(Vj.out _ _ _ _ _ _ _ hS.w q).mono ?_;rintro e w9 ⟨⟨hg,rfl⟩,mH⟩;refine ky hK (hS.lR HC.out mH) λhS=>?_;clear hK mH;refine nk [19,21] ?_;iterate 2
     refine tk hS (y:=by intro W' lr;obtain⟨-,⟨-,-,-,tF⟩,-,cl⟩:=lr.w.cs;have y2:=lr.E9.get 2 (v:= .int .u8 s.float) rfl;have yl:=lr.E9.lt;obtain⟨z1,z2⟩:W'.cell? (gu,1)=u2/\W'.cell? (gu,2)=u3:=⟨lr.hd.get 1 rfl,lr.hd.get 2 rfl⟩;have zl:=lr.hd.lt;go_simp;rfl) (h:=?_)
    refine np ?_;refine J0 25 26 (λK hK=>?_) (λK hK=>?_)
    ·skip
     go_simp;refine(zR qw Af cf _ _ _ _ _ _ _ (by have:=xX.out;omega) (Reads.mo hS.w.fo)).mono ?_;rintro e w9 ⟨⟨F0,F1,F2,F3,F4,rfl⟩,mH⟩;refine ky hK (hS.lR HC.out mH) λhS=>?_;clear hK mH;refine mV 26 (λK hK=>?_);go_simp;have qj:=X6 (Tn.new hS.w #[.int .u8 0,lx,lx,lx,lx]);refine ky hK (hS.lR HC.out bA) λhS=>?_;clear hK;generalize World.alloc _ _=wA at qj hS⊢;generalize Array.size _=ga at qj⊢;refine mV 27 (λK hK=>?_);obtain⟨z0,z1,z2,z3,z4⟩:=qj.b.c5;have zl:=qj.b.lt;have zf:=qj.b.frozen;go_simp;clear z0 z1 z2 z3 z4 zl zf;have vQ:=X6 (hS.flt HC.out qj.out ⟨F0,F1,F2,F3,F4⟩);refine ky hK vQ.1 λhS=>?_;clear hK;refine nR ?_;go_wp2_with fail;go_meet;exact⟨_,⟨F0,F1,F2,F3,F4⟩,rfl,vQ⟩
    ·skip
     go_simp;have qj:=X6 (Tn.new hS.w #[.int .u8 0,lx,lx,lx,lx]);refine ky hK (hS.lR HC.out bA) λhS=>?_;clear hK;generalize World.alloc _ _=wA at qj hS⊢;generalize Array.size _=ga at qj⊢;refine mV 25 (λK hK=>?_);go_simp;refine(zR qw Af cf _ _ _ _ _ _ _ (by have:=xX.out;omega) (Reads.mo hS.w.fo)).mono ?_;rintro e w9 ⟨⟨F0,F1,F2,F3,F4,rfl⟩,mH⟩
     replace qj:=X6 (qj.lR mH)
     refine ky hK (hS.lR HC.out mH) λhS=>?_;clear hK mH;refine mV 27 (λK hK=>?_);obtain⟨z0,z1,z2,z3,z4⟩:=qj.b.c5;have zl:=qj.b.lt;have zf:=qj.b.frozen;go_simp;clear z0 z1 z2 z3 z4 zl zf;have vQ:=X6 (hS.flt HC.out qj.out ⟨F0,F1,F2,F3,F4⟩);refine ky hK vQ.1 λhS=>?_;clear hK;refine nR ?_;go_wp2_with fail;go_meet;exact⟨_,⟨F0,F1,F2,F3,F4⟩,rfl,vQ⟩
   ·skip
    go_simp;have qj:=X6 (Tn.new hS.w #[.int .u8 0,lx,lx,lx,lx]);refine ky hK (hS.lR HC.out bA) λhS=>?_;clear hK;generalize World.alloc _ _=wA at qj hS⊢;generalize Array.size _=ga at qj⊢;refine mV 18 (λK hK=>?_);go_simp;refine(Vj.out _ _ _ _ _ _ _ hS.w q).mono ?_;rintro e w9 ⟨⟨hg,rfl⟩,mH⟩
    replace qj:=X6 (qj.lR mH)
    refine ky hK (hS.lR HC.out mH) λhS=>?_;clear hK mH;refine nk [19,21] ?_;iterate 2
     refine tk hS (y:=by intro W' lr;obtain⟨-,⟨-,-,-,tF⟩,-,cl⟩:=lr.w.cs;have y2:=lr.E9.get 2 (v:= .int .u8 s.float) rfl;have yl:=lr.E9.lt;obtain⟨z1,z2⟩:W'.cell? (gu,1)=u2/\W'.cell? (gu,2)=u3:=⟨lr.hd.get 1 rfl,lr.hd.get 2 rfl⟩;have zl:=lr.hd.lt;go_simp;rfl) (h:=?_)
    refine np ?_;refine mV 25 (λK hK=>?_);go_simp;refine(zR qw Af cf _ _ _ _ _ _ _ (by have:=xX.out;omega) (Reads.mo hS.w.fo)).mono ?_;rintro e w9 ⟨⟨F0,F1,F2,F3,F4,rfl⟩,mH⟩
    replace qj:=X6 (qj.lR mH)
    refine ky hK (hS.lR HC.out mH) λhS=>?_;clear hK mH;refine mV 27 (λK hK=>?_);obtain⟨z0,z1,z2,z3,z4⟩:=qj.b.c5;have zl:=qj.b.lt;have zf:=qj.b.frozen;go_simp;clear z0 z1 z2 z3 z4 zl zf;have vQ:=X6 (hS.flt HC.out qj.out ⟨F0,F1,F2,F3,F4⟩);refine ky hK vQ.1 λhS=>?_;clear hK;refine nR ?_;go_wp2_with fail;go_meet;exact⟨_,⟨F0,F1,F2,F3,F4⟩,rfl,vQ⟩
  ·skip
   go_simp;have qj:=X6 (Tn.new hS.w #[.int .u8 0,lx,lx,lx,lx]);refine ky hK (hS.lR HC.out bA) λhS=>?_;clear hK;generalize World.alloc _ _=wA at qj hS⊢;generalize Array.size _=ga at qj⊢;refine mV 10 (λK hK=>?_);go_simp;refine(TO.out _ _ _ _ _ _ _ hS.w).mono ?_;rintro e w9 ⟨⟨wd,rfl⟩,mH⟩
   replace qj:=X6 (qj.lR mH)
   refine ky hK (hS.lR HC.out mH) λhS=>?_;clear hK mH;refine nk [11,14] ?_;iterate 2
    refine tk hS (y:=by intro W' lr;obtain⟨-,⟨-,-,-,tF⟩,-,cl⟩:=lr.w.cs;have y2:=lr.E9.get 2 (v:= .int .u8 s.float) rfl;have yl:=lr.E9.lt;obtain⟨z1,z2⟩:W'.cell? (gu,1)=u2/\W'.cell? (gu,2)=u3:=⟨lr.hd.get 1 rfl,lr.hd.get 2 rfl⟩;have zl:=lr.hd.lt;go_simp;rfl) (h:=?_)
   refine np ?_;refine mV 18 (λK hK=>?_);go_simp;refine(Vj.out _ _ _ _ _ _ _ hS.w q).mono ?_;rintro e w9 ⟨⟨hg,rfl⟩,mH⟩
   replace qj:=X6 (qj.lR mH)
   refine ky hK (hS.lR HC.out mH) λhS=>?_;clear hK mH;refine nk [19,21] ?_;iterate 2
    refine tk hS (y:=by intro W' lr;obtain⟨-,⟨-,-,-,tF⟩,-,cl⟩:=lr.w.cs;have y2:=lr.E9.get 2 (v:= .int .u8 s.float) rfl;have yl:=lr.E9.lt;obtain⟨z1,z2⟩:W'.cell? (gu,1)=u2/\W'.cell? (gu,2)=u3:=⟨lr.hd.get 1 rfl,lr.hd.get 2 rfl⟩;have zl:=lr.hd.lt;go_simp;rfl) (h:=?_)
   refine np ?_;refine mV 25 (λK hK=>?_);go_simp;refine(zR qw Af cf _ _ _ _ _ _ _ (by have:=xX.out;omega) (Reads.mo hS.w.fo)).mono ?_;rintro e w9 ⟨⟨F0,F1,F2,F3,F4,rfl⟩,mH⟩
   replace qj:=X6 (qj.lR mH)
   refine ky hK (hS.lR HC.out mH) λhS=>?_;clear hK mH;refine mV 27 (λK hK=>?_);obtain⟨z0,z1,z2,z3,z4⟩:=qj.b.c5;have zl:=qj.b.lt;have zf:=qj.b.frozen;go_simp;clear z0 z1 z2 z3 z4 zl zf;have vQ:=X6 (hS.flt HC.out qj.out ⟨F0,F1,F2,F3,F4⟩);refine ky hK vQ.1 λhS=>?_;clear hK;refine nR ?_;go_wp2_with fail;go_meet;exact⟨_,⟨F0,F1,F2,F3,F4⟩,rfl,vQ⟩
 case rest=>
 clear EL;obtain⟨ga,F,rfl,HVF⟩:=hcut;have FP:=X6 HVF.1;have Fp:=X6 HVF.2;clear HVF;as_aux_lemma=>
 go_upto_region 34 with(fail);go_cut [] (λV=>∃(A6:Option Addr) (c6:Nat),Hid (pj C W [(gu,40,#[.int .i64 u1,.int .i64 u2,.int .i64 u3]),(gs,63,(lj s).toArray)] a s1 s2 A6 c6 (qw++[F]) V/\lq V ga 181 (oL F).toArray/\C.B<=ga));case first=>
  as_aux_lemma=>
  have zE:=X6 (FP.drew HC.out);have hbwa:C.bw∈C.arr:=by simp[Qx.arr]
  have Zr:=X6 hbwa;clear hbwa;have oA:qw.length+1<=4294967296:=by have:=xX.out;omega
  have HVc:=zE;refine wp_region_held_drew (S:=λV=>lq V ga 181 (oL F).toArray/\C.bw<V.heap.size) (by kernel_rfl) (⟨Fp.b.drew,zE.w.qB.lt⟩) (λhS=>?_);refine nk [0,1,2,3,5] ?_;iterate 5
   refine tk hS (y:=by intro W' lr;obtain⟨hB,cl⟩:=lr;obtain⟨z0,z1,z2,z3,z4⟩:W'.cell? (ga,0)=some (.int .u8 F.side)/\W'.cell? (ga,1)=F.x/\W'.cell? (ga,2)=F.y/\W'.cell? (ga,3)=F.w/\W'.cell? (ga,4)=F.h:=⟨hB.get 0 rfl,hB.get 1 rfl,hB.get 2 rfl,hB.get 3 rfl,hB.get 4 rfl⟩;have zl:=hB.lt;go_simp;rfl) (h:=?_)
  refine np ?_;refine J0 4 6 (λK hK=>?_) (λK hK=>?_)
  ·skip
   obtain⟨-,⟨-,-,-,tF⟩,-,cl⟩:=FP.w.cs;go_simp;clear tF cl;refine ky hK hS λhS=>?_;clear hK;refine mV 6 (λK hK=>?_);go_simp
   replace HVc:=X6 (HVc.lR HC.out ((ZN _ _).alloc (X7 _) (.cells #[.int .u8 F.side,F.x,F.y,F.w,F.h] 181)))
   refine ky hK ⟨hS.1.alloc _,by have h9:=hS.2;simp at h9⊢;omega⟩ λhS=>?_;clear hK;refine mV 7 (λK hK=>?_);refine oS (m:=1) rfl _ _ rfl WZ zE.w.fo zE.w.sz rfl [.int .u8 F.side,.int .i64 F.x,.int .i64 F.y,.int .i64 F.w,.int .i64 F.h] rfl rfl rfl (by simp[Value.oneCell']) oA (by omega) ?_;intro A6 c6 w6 mF uK oO pa;have zq:Hid (lq w6 ga 181 (oL F).toArray):=X6 (Fp.b.drew.grown oO (λe=>by have:=Fp.ne ga e.symm;omega));have Wa:=X6 (zE.app (f:=F) HC.out oO mF);have vO:Hid (lq w6 C.bw 216 (rq C a s1 s2 (.slice Af qw.length cf))):=X6 (zE.w.qB.grown oO (pg zE.w.fo (HC.lw C.bw Zr.out).2.1));clear mF uK oO pa;refine ky hK ⟨zq.out,vO.lt⟩ λhS=>?_;clear hK;refine nk [8,9] ?_;iterate 2
    refine tk hS (y:=by intro W' lr;obtain⟨hB,cl⟩:=lr;obtain⟨z0,z1,z2,z3,z4⟩:W'.cell? (ga,0)=some (.int .u8 F.side)/\W'.cell? (ga,1)=F.x/\W'.cell? (ga,2)=F.y/\W'.cell? (ga,3)=F.w/\W'.cell? (ga,4)=F.h:=⟨hB.get 0 rfl,hB.get 1 rfl,hB.get 2 rfl,hB.get 3 rfl,hB.get 4 rfl⟩;have zl:=hB.lt;go_simp;rfl) (h:=?_)
   refine np ?_;refine mV 10 (λK hK=>?_);have tF:=vO.get 10 (v:= .slice Af qw.length cf) rfl;have cl:=vO.lt;have cz:=vO.frozen;go_simp;clear tF cl cz;have rz:Hid (pj C W [(gu,40,#[.int .i64 u1,.int .i64 u2,.int .i64 u3]),(gs,63,(lj s).toArray)] a s1 s2 A6 c6 (qw++[F]) (w6.setCell (C.bw,10) (.slice A6 (qw.length+1) c6))/\lq (w6.setCell (C.bw,10) (.slice A6 (qw.length+1) c6)) ga 181 (oL F).toArray/\C.B<=ga):=X6 ⟨Wa.out,zq.lQ (p:=(C.bw,10)) (by have:=(HC.lw C.bw Zr.out).2.1;have:=Fp.ge;simp only;omega) _,Fp.ge⟩;refine ky hK ⟨rz.2.1,rz.1.w.qB.lt⟩ λhS=>?_;clear hK;refine nR ?_;clear hS;go_wp2_with fail;go_meet;exact⟨_,_,rz⟩
  ·skip
   go_simp
   replace HVc:=X6 (HVc.lR HC.out ((ZN _ _).alloc (X7 _) (.cells #[.int .u8 F.side,F.x,F.y,F.w,F.h] 181)))
   refine ky hK ⟨hS.1.alloc _,by have h9:=hS.2;simp at h9⊢;omega⟩ λhS=>?_;clear hK;refine mV 4 (λK hK=>?_);obtain⟨-,⟨-,-,-,tF⟩,-,cl⟩:=FP.w.cs;go_simp;clear tF cl;refine ky hK hS λhS=>?_;clear hK;refine mV 7 (λK hK=>?_);refine oS (m:=1) rfl _ _ rfl WZ zE.w.fo zE.w.sz rfl [.int .u8 F.side,.int .i64 F.x,.int .i64 F.y,.int .i64 F.w,.int .i64 F.h] rfl rfl rfl (by simp[Value.oneCell']) oA (by omega) ?_;intro A6 c6 w6 mF uK oO pa;have zq:Hid (lq w6 ga 181 (oL F).toArray):=X6 (Fp.b.drew.grown oO (λe=>by have:=Fp.ne ga e.symm;omega));have Wa:=X6 (zE.app (f:=F) HC.out oO mF);have vO:Hid (lq w6 C.bw 216 (rq C a s1 s2 (.slice Af qw.length cf))):=X6 (zE.w.qB.grown oO (pg zE.w.fo (HC.lw C.bw Zr.out).2.1));clear mF uK oO pa;refine ky hK ⟨zq.out,vO.lt⟩ λhS=>?_;clear hK;refine nk [8,9] ?_;iterate 2
    refine tk hS (y:=by intro W' lr;obtain⟨hB,cl⟩:=lr;obtain⟨z0,z1,z2,z3,z4⟩:W'.cell? (ga,0)=some (.int .u8 F.side)/\W'.cell? (ga,1)=F.x/\W'.cell? (ga,2)=F.y/\W'.cell? (ga,3)=F.w/\W'.cell? (ga,4)=F.h:=⟨hB.get 0 rfl,hB.get 1 rfl,hB.get 2 rfl,hB.get 3 rfl,hB.get 4 rfl⟩;have zl:=hB.lt;go_simp;rfl) (h:=?_)
   refine np ?_;refine mV 10 (λK hK=>?_);have tF:=vO.get 10 (v:= .slice Af qw.length cf) rfl;have cl:=vO.lt;have cz:=vO.frozen;go_simp;clear tF cl cz;have rz:Hid (pj C W [(gu,40,#[.int .i64 u1,.int .i64 u2,.int .i64 u3]),(gs,63,(lj s).toArray)] a s1 s2 A6 c6 (qw++[F]) (w6.setCell (C.bw,10) (.slice A6 (qw.length+1) c6))/\lq (w6.setCell (C.bw,10) (.slice A6 (qw.length+1) c6)) ga 181 (oL F).toArray/\C.B<=ga):=X6 ⟨Wa.out,zq.lQ (p:=(C.bw,10)) (by have:=(HC.lw C.bw Zr.out).2.1;have:=Fp.ge;simp only;omega) _,Fp.ge⟩;refine ky hK ⟨rz.2.1,rz.1.w.qB.lt⟩ λhS=>?_;clear hK;refine nR ?_;clear hS;go_wp2_with fail;go_meet;exact⟨_,_,rz⟩
 case rest=>
 clear FP Fp;obtain⟨A6,c6,rz⟩:=hcut;as_aux_lemma=>
 go_upto_region 35 with(fail);go_cut [] (λV=>Hid (pj C W [(gu,40,#[.int .i64 u1,.int .i64 u2,.int .i64 u3]),(gs,63,(lj s).toArray)] a s1 s2 A6 c6 (qw++[F]) V/\lq V ga 181 (oL F).toArray));case first=>
  obtain⟨-,-,⟨-,uT,-⟩,cl⟩:=rz.1.w.cs;obtain⟨x9,o0⟩:=rz.1.w.x.at_ tU.out;have ol:=rz.1.w.x.lt;have oz:=rz.1.w.x.frozen;have z1:=rz.2.1.get 1 (v:= .int .i64 F.x) rfl;have zl:=rz.2.1.lt;have y1:=rz.1.hd.get 1 (v:= .int .i64 u2) rfl;have yl:=rz.1.hd.lt;have mI:ga≠C.gx:=by have:=(HC.lw C.gx (by simp[Qx.arr])).2.1;have:=rz.2.2;omega
  have uU:=X6 (λv=>And.intro ((rz.1.LQ HC.out q v).drew HC.out) (rz.2.1.lQ (p:=(C.gx,q)) mI (.int .i64 v)).drew);clear mI;go_region;all_goals go_wp2_with fail
  all_goals go_meet
  all_goals exact X6 (uU.out _)
 case rest=>
 have C6:=X6 rz.2.2;clear rz;have uU:=hcut;clear hcut;as_aux_lemma=>
 go_upto_region 36 with(fail);go_cut [] (λV=>Hid (pj C W [(gu,40,#[.int .i64 u1,.int .i64 u2,.int .i64 u3]),(gs,63,(lj s).toArray)] a s1 s2 A6 c6 (qw++[F]) V));case first=>
  obtain⟨-,-,⟨-,-,AV,-⟩,cl⟩:=uU.1.w.cs;obtain⟨x9,o0⟩:=uU.1.w.y.at_ tU.out;have ol:=uU.1.w.y.lt;have oz:=uU.1.w.y.frozen;have z1:=uU.2.get 2 (v:= .int .i64 F.y) rfl;have zl:=uU.2.lt;go_region;all_goals go_wp2_with fail
  all_goals go_meet
  all_goals exact X6 ((uU.1.Ew HC.out q _).drew HC.out)
 case rest=>
 clear uU;have vq:=hcut;clear hcut;as_aux_lemma=>
 go_upto_region 37 with(fail);refine wp_region_held_drew (S:=λV=>pj C W [(gu,40,#[.int .i64 u1,.int .i64 u2,.int .i64 u3]),(gs,63,(lj s).toArray)] a s1 s2 A6 c6 (qw++[F]) V) (by kernel_rfl) (vq.drew HC.out) (λhS=>?_);refine nk [0,1,2,3,4,5,6] ?_;iterate 7
  refine tk hS (y:=by intro W' lr;obtain⟨-,-,⟨-,-,-,BU,-⟩,cl⟩:=lr.w.cs;go_simp;rfl) (h:=?_)
 refine np ?_;refine mV 7 (λK hK=>?_);go_simp;refine(Vj.out _ _ _ _ _ _ _ hS.w q).mono ?_;rintro e w9 ⟨⟨hi9,rfl⟩,mH⟩;refine ky hK (hS.lR HC.out mH) λhS=>?_;clear hK;refine nk [8] ?_;refine tk hS (y:=by intro W' lr;obtain⟨-,-,⟨-,-,-,BU,-⟩,cl⟩:=lr.w.cs;go_simp;rfl) (h:=?_);refine np ?_;refine mV 9 (λK hK=>?_);obtain⟨o8v,o8⟩:=hS.w.h.at_ tU.out;have Kv:=hS.w.h.lt;have MV:=hS.w.h.frozen;go_simp;clear o8 Kv MV;refine ky hK (hS.FI HC.out q hi9) λhS=>?_;clear hK;refine nR ?_;have Uq:Hid (pj C W [] a s1 s2 A6 c6 (qw++[F]) _/\(qw++[F]).length<=qw.length+ny C.l f q):=X6 ⟨hS.pop.pop,by have h2:=SY.out;rw[YM];simp only[ZA,aBD];omega⟩;clear hS vq;go_wp2_with fail;exact HQ.out _ ⟨_,_,_,_,_,_,Uq.out⟩
end Go.Proofs.YtjhingednpjogaaGreat
