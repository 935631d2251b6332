/- Lemmas for ValidRoom; laid together by a program. -/
import Derived.Test.YtjhingednpjogaaGreatQe
set_option linter.all false
set_option maxRecDepth 100000
set_option maxHeartbeats 40000000
namespace Go.Proofs.YtjhingednpjogaaGreat
open Go.Proofs.Tryz
open Go.RowKit
attribute [local go_sem] lp
theorem U8(p:JU):(nH p).toArray.all (·.oneCell')=true:=by simp[nH,Value.oneCell']
structure yp(w:World)(s:me)(Ap:Option Addr)(ps:List JU)(Bp gf gb:Nat)(W:World):Prop where
 s:lq W w.heap.size 63 (lj s).toArray
 p:Reads W Bp 7 Ap ps.length (oI ps)
 f:qX w.heap.size W gf ps.length
 b:pq W gb ps.length
 be:Below w.heap.size w W
 o1:w.heap.size<Bp
 o2:Bp<=gf
 o3:gf<gb
section
variable{w W W':World}{s:me}{Ap:Option Addr}{ps:List JU}{Bp gf gb:Nat}
theorem yp.lR(h:yp w s Ap ps Bp gf gb W)(hb:Below W.heap.size W W'):yp w s Ap ps Bp gf gb W':=
 ⟨h.s.below hb h.s.lt,h.p.below (hb.mono (by have:=h.f.lt;have:=h.o2;omega)),h.f.below hb,h.b.below hb h.b.lt,h.be.trans (hb.mono h.be.size),h.o1,h.o2,h.o3⟩
theorem yp.lQ(h:yp w s Ap ps Bp gf gb W){g:Nat}(hg:gb<g)(j:Nat)(u:Value)(hty:∃cs t,t≠79/\t≠237/\lq W g t cs):yp w s Ap ps Bp gf gb (W.setCell (g,j) u):=by obtain⟨cs,t,n1,n2,hc⟩:=hty;have h1:=h.o1;have h2:=h.o2;have h3:=h.o3;exact⟨h.s.lQ (p:=(g,j)) (by simp;omega) u,h.p.setCell (p:=(g,j)) (by simp;omega) u,h.f.kept (λ_ hb=>hb.lQ (p:=(g,j)) (by simp;omega) u) (Kt.setCell (p:=(g,j)) u (.inr ⟨_,_,n1.symm,hc⟩)) (Kt.setCell (p:=(g,j)) u (.inr ⟨_,_,n2.symm,hc⟩)),h.b.lQ (p:=(g,j)) (by simp;omega) u,h.be.setCell (p:=(g,j)) (by simp;omega) u,h1,h2,h3⟩
theorem yp.Xk(h:yp w s Ap ps Bp gf gb W)(j:Nat)(u:Value)(hf:qX w.heap.size (W.setCell (gf,j) u) gf ps.length):yp w s Ap ps Bp gf gb (W.setCell (gf,j) u):=by have h1:=h.o1;have h2:=h.o2;have h3:=h.o3;exact⟨h.s.lQ (p:=(gf,j)) (by simp;omega) u,h.p.setCell (p:=(gf,j)) (by simp;omega) u,hf,h.b.lQ (p:=(gf,j)) (by simp;omega) u,h.be.setCell (p:=(gf,j)) (by simp;omega) u,h1,h2,h3⟩
theorem yp.bset(h:yp w s Ap ps Bp gf gb W)(j:Nat)(b:Bool):yp w s Ap ps Bp gf gb (W.setCell (gb,j) (.bool b)):=by have h1:=h.o1;have h2:=h.o2;have h3:=h.o3;obtain⟨cs,hc,_⟩:=h.b;exact⟨h.s.lQ (p:=(gb,j)) (by simp;omega) _,h.p.setCell (p:=(gb,j)) (by simp;omega) _,h.f.kept (λ_ hb=>hb.lQ (p:=(gb,j)) (by simp;omega) _) (Kt.setCell (p:=(gb,j)) _ (.inr ⟨_,_,by decide,hc⟩)) (Kt.setCell (p:=(gb,j)) _ (.inr ⟨_,_,by decide,hc⟩)),h.b.lA j b,h.be.setCell (p:=(gb,j)) (by simp;omega) _,h1,h2,h3⟩
theorem yp.frag(h:yp w s Ap ps Bp gf gb W){k:Nat}(hk:k<ps.length)(x y d g:Int){A:Option Addr}{c:Nat}{ls:List CX}(hl:oh w.heap.size W (.slice A ls.length c) ls): yp w s Ap ps Bp gf gb (((((W.setCell (gf,k*5) x).setCell (gf,k*5+1) y).setCell (gf,k*5+2) d).setCell (gf,k*5+3) g).setCell (gf,k*5+4) (.slice A ls.length c)):=by
 have h0:=h.Xk _ _ (h.f.xq hk x);have h1:=h0.Xk _ _ (h0.f.F7 hk y);have h2:=h1.Xk _ _ (h1.f.Nc hk d);have h3:=h2.Xk _ _ (h2.f.EU hk g);have mI:∀W:World,qX w.heap.size W gf ps.length->∃cs,lq W gf 43 cs:=λW ⟨fs,_,hb,_⟩=>⟨_,hb⟩;have kp:∀(W:World) (j:Nat) (u:Value),qX w.heap.size W gf ps.length->oh w.heap.size W (.slice A ls.length c) ls->oh w.heap.size (W.setCell (gf,j) u) (.slice A ls.length c) ls:=λW j u hf hl=>by obtain⟨cs,hb⟩:=mI W hf;exact hl.kept (Kt.setCell (p:=(gf,j)) u (.inr ⟨_,_,by decide,hb⟩)) (Kt.setCell (p:=(gf,j)) u (.inr ⟨_,_,by decide,hb⟩))
 exact h3.Xk _ _ (h3.f.FD hk (kp _ _ _ h2.f (kp _ _ _ h1.f (kp _ _ _ h0.f (kp _ _ _ h.f hl)))))
end
section
variable(s:me)(sL:List me)(Nj:List Ft)(yu:List Int)(rows:List (List Nat))(As Au Ah Ar:Option Addr)(cs cu ch cr:Nat)(w:World)
theorem N4(c:Int)(hn:sL.length<=65536)(hs:Reads w w.heap.size 43 As sL.length (nh sL))(hu:Reads w w.heap.size 3 Au Nj.length (nC Nj))(hh:Reads w w.heap.size 1 Ah yu.length (lY yu))(hr:LM w w.heap.size Ar rows)(Yh:rows.length<=65536)(hrm:∀r<rows.length,∀x∈rowAt rows r,x<sL.length)(tf:∀r<rows.length,(rowAt rows r).length<=65536): Calls prog 80 #[.agg (lj s).toArray,.int .i64 c,.slice As sL.length cs,.slice Au Nj.length cu,.slice Ah yu.length ch,.slice Ar rows.length cr] w λe w'=>(∃gf gb hi,e= .returned (.tuple #[.slice (some ⟨gf,0,none⟩) sL.length sL.length,.int .i64 hi,.slice (some ⟨gb,0,none⟩) sL.length sL.length])/\qX w.heap.size w' gf sL.length/\pq w' gb sL.length)/\Below w.heap.size w w':=by
 have HPA:=X6 (λW (hb:Below w.heap.size w W)=>Nf sL Nj yu As Au Ah cs cu ch W c hn ((hs.below hb).more hb.size) ((hu.below hb).more hb.size) ((hh.below hb).more hb.size));have HN:=X6 hn;have HS:=X6 (λW (hb:Below w.heap.size w W) k (hk:k<sL.length)=>(hs.below hb).sq rfl hk);have xV:=X6 (λr (XM:r<rows.length)=>hr.at_ r XM);have HRM:=X6 hrm;have BN:=X6 tf;have TC:=X6 Yh;have Mf:Hid (lq (w.alloc (.cells (lj s).toArray 63)) w.heap.size 63 (lj s).toArray/\Below w.heap.size w (w.alloc (.cells (lj s).toArray 63))):=X6 ⟨lq.new _ _ _,bA⟩;have hmf:=λW=>Hq sL.length (by omega) W;have hmb:=λW=>uI sL.length (by omega) W;have xG:(0:Int)<=(sL.length:Int):=by omega
 clear hs hu hh hr hrm hn tf Yh;go_enter func80,ntmps80;go_upto_region 1 with(fail)
 generalize w.alloc _=w1 at Mf⊢;go_upto_region 2 with(go_at_call 138;refine(HPA.out _ Mf.2).mono ?_;rintro e w2 ⟨⟨Ap,cp,ps,rfl,Ye,hpo⟩,mr⟩;have Dm:=X6 (And.intro (Mf.1.below mr Mf.1.lt) (Mf.2.trans (mr.mono Mf.2.size)));have HPO:=X6 hpo;have XV:=X6 Ye;clear hpo Ye mr)
 go_upto_region 4 with(fail);obtain⟨gf,Pm⟩:∃g,g=w2.heap.size:=⟨_,rfl⟩;have hpln:=XV.out;have HP3:Hid (yp w s Ap ps gf gf (gf+1) ((w2.alloc (.cells (lO (List.replicate sL.length U0)).toArray 43)).alloc (.cells (wm sL.length).toArray 4))):=X6 ⟨(Dm.1.alloc _).alloc _,by
  have h:=Reads.mo HPO.out;rw[<-Pm]at h;exact(h.alloc (by omega) _).alloc (by simp;omega) _,by
  rw[hpln];exact(qX.new w.heap.size w2 sL.length gf Pm).below bA,by rw[hpln];exact pq.new _ _ _ (by simp;omega),(Dm.2.alloc Dm.2.size _).alloc (by simp;have:=Dm.2.size;omega) _,by rw[Pm];exact Dm.1.lt,X7 _,by omega⟩
 have hgf1:gf+1=w2.heap.size+1:=by omega
 clear hpln;simp only[<-Pm]at HP3⊢;clear Pm hgf1 HPO Dm Mf hmf hmb HPA;generalize World.alloc (World.alloc w2 _) _=w3 at HP3⊢;have Tk:Hid (ps.length=sL.length):=X6 XV.out;clear XV;go_wp2_with fail;go_loopw [18,19] (λtv rv wr=>∃(r:Nat) (t:Int),r<=rows.length/\tv= .int .i64 t/\rv= .int .i64 (r:Int)/\Hid (yp w s Ap ps gf gf (gf+1) wr)) (λ_ rv _=>rows.length-(intOf rv).toNat);case atStart=>exact⟨0,0,by omega,rfl,rfl,HP3⟩
 case round=>
  clear HP3;obtain⟨r,tp,hr,rfl,rfl,HP⟩:=hrel;have hwr:IntKind.i64.wrap ((r:Int)+1)=(r:Int)+1:=YG _ ⟨by omega,by have:=TC.out;omega⟩;by_cases hlr:r<rows.length;rotate_left
  ·have d0:decide ((r:Int)<(rows.length:Int))=false:=X9 (by omega);have pJ:decide (r<rows.length)=false:=X9 hlr;as_aux_lemma=>
   go_wp2_with fail;go_loopw [36] (λiv wr=>∃(k:Nat),k<=sL.length/\iv= .int .i64 (k:Int)/\Hid (yp w s Ap ps gf gf (gf+1) wr)) (λiv _=>sL.length-(intOf iv).toNat);case atStart=>exact⟨0,by omega,rfl,HP⟩
   case round=>
    clear HP;obtain⟨k,hk,rfl,HP⟩:=hrel;have C2:IntKind.i64.wrap ((k:Int)+1)=(k:Int)+1:=YG _ ⟨by omega,by have:=HN.out;omega⟩;by_cases GF:k<sL.length
    ·have f1:decide ((k:Int)<(sL.length:Int))=true:=YC (by omega);have f1':decide (k<sL.length)=true:=YC GF;have Fe:(k:Int)<(sL.length:Int):=(by omega);have nF:k<ps.length:=(by rw[Tk.out];exact GF);obtain⟨F,hF,g0,g1,g2,g3,g4⟩:=HP.f.at_ nF;have gl:=HP.f.lt;have HCF:=X6 (λW=>qh F.x F.y F.w F.h F.A F.ls.length F.c W);have HFO:=X6 hF;clear hF;have h5:=HP.o3;go_wp2_with (go_at_call 81;refine(HCF.out _).mono ?_;rintro e wx ⟨⟨fa,fb,fd,fh,fbe,rfl⟩,F9⟩;have HPX:=X6 (HP.lR F9);have HLX:=X6 (HFO.kept (Kt.below F9) (Kt.below F9));clear F9 g0 g1 g2 g3 g4 gl;obtain⟨F2,-,g0,g1,g2,g3,g4⟩:=HPX.f.at_ nF;have gl:=HPX.f.lt;have gz:=HPX.f.frozen;obtain⟨bb,k0⟩:=HPX.b.at_ nF;have kl:=HPX.b.lt;have kz:=HPX.b.frozen);have AK:=X6 ((HPX.frag nF fa fb fd fh HLX.out).bset k fbe);go_roundw;case rel=>exact⟨k+1,by omega,by go_num,AK⟩
     case measure=>simp[intOf];omega
    ·have f1:decide ((k:Int)<(sL.length:Int))=false:=X9 (by omega);have f1':decide (k<sL.length)=false:=X9 GF;have HC:=X6 (λx W=>qP x W);go_wp2_with (go_at_call 76;refine(HC.out _ _).mono ?_;rintro e w' ⟨rfl,rfl⟩);have HE:=X6 (And.intro (Tk.out▸HP.f) (And.intro (Tk.out▸HP.b) HP.be));refine ZQ (results_tmp3 rfl _ _ _) rfl ?_;exact⟨⟨_,_,_,rfl,HE.1,HE.2.1⟩,HE.2.2⟩
  have d0:decide ((r:Int)<(rows.length:Int))=true:=YC (by omega);have pJ:decide (r<rows.length)=true:=YC hlr;have hri:(r:Int)<(rows.length:Int):=by omega
  obtain⟨gr,A1,c1,hAr,hgr,hrc0,Zx⟩:=xV.out r hlr;subst hAr;have hrc:=(HP.be.cell (p:=(gr,r)) hgr).trans hrc0;obtain⟨R,hR⟩:∃R,R=rowAt rows r:=⟨_,rfl⟩;have Hg:=X6 (And.intro (HRM.out r hlr) (BN.out r hlr));rw[<-hR]at hrc Zx Hg;have hgr2:gr<wr.heap.size:=YK hgr HP.be.size;have HRE:Hid (∀i (hi:i<R.length),∃ad:Addr,A1=some ad/\ad.block<w.heap.size/\∀W,Below w.heap.size w W->W.cell? (ad.add i)=some (.int .i64 (R[i]:Int))):=X6 (λi hi=>by obtain⟨ad,u,e,h1,h2,h3⟩:=Zx.at_ hi;have hu:u= .int .i64 (R[i]:Int):=(by simpa[nM,hi]using h2.symm);exact⟨ad,e,h1,λW hb=>(hb.cell (p:=ad.add i) (by rw[lp];exact h1)).trans (by rw[h3,hu])⟩);have HRn:=X6 Hg.2;clear hrc0 Zx hR;go_wp2_with fail;clear hrc hgr2 hgr;have yX:Hid (∀(W:World) (q:Nat),yp w s Ap ps gf gf (gf+1) W->q<sL.length->∃(ad:Addr) (p:JU),Ap=some ad/\ad.block<gf/\∀j u,(nH p)[j]? =some u->W.cell? ((ad.add (q*7)).add j)=some u):=X6 (λW q h hq=>by obtain⟨ad,e,h1,h2⟩:=h.p.pt rfl (show q<ps.length by rw[Tk.out];exact hq);exact⟨ad,_,e,h1,h2⟩);go_loopw [21,22,23] (λtv fv iv wr=>∃(i:Nat) (t f:Int),i<=R.length/\tv= .int .i64 t/\fv= .int .i64 f/\iv= .int .i64 (i:Int)/\Hid (yp w s Ap ps gf gf (gf+1) wr)) (λ_ _ iv _=>R.length-(intOf iv).toNat);case atStart=>exact⟨0,_,_,by omega,rfl,rfl,rfl,HP⟩
  case round=>
   clear HP;obtain⟨i,tl,fr,hi,rfl,rfl,rfl,HP⟩:=hrel;have Vp:IntKind.i64.wrap ((i:Int)+1)=(i:Int)+1:=YG _ ⟨by omega,by have:=HRn.out;omega⟩;by_cases Br:i<R.length
   ·skip
    as_aux_lemma=>
    have f0:decide ((i:Int)<(R.length:Int))=true:=YC (by omega);have MO:decide (i<R.length)=true:=YC Br;have wQ:(i:Int)<(R.length:Int):=(by omega);obtain⟨adr,hA1,Nm,hrx⟩:=HRE.out i Br;subst hA1;have hq:=Hg.1 _ (YJ Br);have x0:=hrx _ HP.be;obtain⟨q,yi⟩:∃q,q=R[i]:=⟨_,rfl⟩;rw[<-yi]at hq x0;have VO:adr.block<wr.heap.size:=YK Nm HP.be.size;have KQ:(q:Int)<(ps.length:Int):=(by have:=Tk.out;omega);obtain⟨Wp,p,hAp,hadp,hpc⟩:=yX.out wr q HP.out hq;subst hAp;have HPC:=X6 hpc;clear yi hrx hpc;go_upto_region 15 with(first | refine nK rfl 227 (.tmp 72) rfl (Wp.add (q*7)) rfl (nH p) _ HPC.out underlying227 rfl (by kernel_rfl) ?_ | refine lJ rfl 227 _ _ rfl _ rfl (nH p).toArray rfl rfl 227 _ (by kernel_rfl) rfl (U8 p) ?_)
    obtain⟨gx,DR⟩:∃g,g=wr.heap.size:=⟨_,rfl⟩;have HX:Hid (yp w s (some Wp) ps gf gf (gf+1) (wr.alloc (.cells (nH p).toArray 227))/\lq (wr.alloc (.cells (nH p).toArray 227)) gx 227 (nH p).toArray):=X6 ⟨HP.lR bA,lq.at_ _ _ _ DR⟩;rw[<-DR];clear DR HP x0 VO HPC;generalize World.alloc wr _=wx at HX⊢;obtain⟨p0,p1,p2,p3,p4,p5,p6⟩:=p;obtain⟨o0,o1,o2,o3,o4,o5,o6⟩:wx.cell? (gx,0)=p0/\wx.cell? (gx,1)=p1/\wx.cell? (gx,2)=p2/\wx.cell? (gx,3)=p3/\wx.cell? (gx,4)=p4/\wx.cell? (gx,5)=p5/\wx.cell? (gx,6)=p6:=⟨HX.2.get 0 rfl,HX.2.get 1 rfl,HX.2.get 2 rfl,HX.2.get 3 rfl,HX.2.get 4 rfl,HX.2.get 5 rfl,HX.2.get 6 rfl⟩;have xl:=HX.2.lt;go_wp2_with fail;go_roundw;case rel=>exact⟨i+1,_,_,by omega,rfl,rfl,by go_num,X6 HX.1⟩
    case measure=>simp[intOf];omega
   ·have f0:decide ((i:Int)<(R.length:Int))=false:=X9 (by omega);have MO:decide (i<R.length)=false:=X9 Br;go_upto_region 17 with(fail)
    have y6:=HP.s.get 6 (v:= .int .u8 s.h.k) rfl;have sl:=HP.s.lt;go_cut [104] (λv W=>(∃b:Bool,v= .bool b)/\Hid (yp w s Ap ps gf gf (gf+1) W));case first=>
     as_aux_lemma=>
     cases eR:((rows.length:Int) == 1)
     all_goals cases eh:(s.h.k == 1)
     all_goals go_wp2_with fail
     all_goals go_meet
     all_goals exact⟨⟨_,rfl⟩,HP⟩
    case rest=>
    clear HP y6 sl;obtain⟨⟨b,rfl⟩,HP⟩:=hcut;go_upto_if 104 with(fail)
    go_cut [21] (λv W=>(∃t:Int,v= .int .i64 t)/\Hid (yp w s Ap ps gf gf (gf+1) W));case first=>
     as_aux_lemma=>
     have R3:=X6 (λW=>uY s 0 W);have pP:=X6 (AH HP.s);have sl:=HP.s.lt;cases b
     ·go_wp2_with fail;go_meet;exact⟨⟨_,rfl⟩,HP⟩
     ·go_wp2_with (first | (refine wpList_load_mid rfl 63 _ rfl w.heap.size 0 rfl (lj s) _ pP.out underlying63 rfl (by kernel_rfl) ?_) | (go_at_call 83;refine(R3.out _).mono ?_;rintro e w7 ⟨⟨x2,rfl,wC⟩,qk⟩;have zC:=X6 (HP.lR qk);clear qk));go_meet;exact⟨⟨_,rfl⟩,zC⟩
    case rest=>
    clear HP;obtain⟨⟨tl2,rfl⟩,HP⟩:=hcut;have y35:=HP.s.get 35 (v:= .int .u8 s.vx) rfl;have sl:=HP.s.lt;go_upto_block 4 with(fail)
    clear y35 sl;go_cut [25] (λv W=>(∃t:Int,v= .int .i64 t)/\Hid (yp w s Ap ps gf gf (gf+1) W));case first=>
     as_aux_lemma=>
     cases e1:(s.vx == 1)
     ·cases e2:(s.vx == 2)
      ·go_wp2_with fail;go_meet;exact⟨⟨_,rfl⟩,HP⟩
      ·go_wp2_with (go_at_call 139;refine(Ha _ _).mono ?_;rintro e w7 ⟨⟨x2,rfl⟩,rfl⟩);go_meet;exact⟨⟨_,rfl⟩,HP⟩
     ·go_wp2_with fail;go_meet;exact⟨⟨_,rfl⟩,HP⟩
    case rest=>
    clear HP;obtain⟨⟨at0,rfl⟩,HP⟩:=hcut;go_wp2_with fail;go_loopw [25,26] (λav iv wr=>∃(j:Nat) (a:Int),j<=R.length/\av= .int .i64 a/\iv= .int .i64 (j:Int)/\Hid (yp w s Ap ps gf gf (gf+1) wr)) (λ_ iv _=>R.length-(intOf iv).toNat);case atStart=>exact⟨0,at0,by omega,rfl,rfl,HP⟩
    case round=>
     clear HP;obtain⟨j,a0,hj,rfl,rfl,HP⟩:=hrel;have hwj:IntKind.i64.wrap ((j:Int)+1)=(j:Int)+1:=YG _ ⟨by omega,by have:=HRn.out;omega⟩;by_cases FA:j<R.length
     ·have f1:decide ((j:Int)<(R.length:Int))=true:=YC (by omega);have f1':decide (j<R.length)=true:=YC FA;have Cq:(j:Int)<(R.length:Int):=(by omega);obtain⟨adr,hA1,Nm,hrx⟩:=HRE.out j FA;subst hA1;have hq:=Hg.1 _ (YJ FA);have x0:=hrx _ HP.be;obtain⟨q,yi⟩:∃q,q=R[j]:=⟨_,rfl⟩;rw[<-yi]at hq x0;have VO:adr.block<wr.heap.size:=YK Nm HP.be.size;have KQ:(q:Int)<(ps.length:Int):=(by have:=Tk.out;omega);have hqs:(q:Int)<(sL.length:Int):=(by omega);obtain⟨Wp,p,hAp,hadp,hpc⟩:=yX.out wr q HP.out hq;subst hAp;have HPC:=X6 hpc;clear yi hrx hpc;go_upto_region 30 with(first | refine nK rfl 227 (.tmp 128) rfl (Wp.add (q*7)) rfl (nH p) _ HPC.out underlying227 rfl (by kernel_rfl) ?_ | refine lJ rfl 227 _ _ rfl _ rfl (nH p).toArray rfl rfl 227 _ (by kernel_rfl) rfl (U8 p) ?_)
      obtain⟨gx,DR⟩:∃g,g=wr.heap.size:=⟨_,rfl⟩;obtain⟨p0,p1,p2,p3,p4,p5,p6⟩:=p;have HX0:Hid (yp w s (some Wp) ps gf gf (gf+1) (wr.alloc (.cells (nH ⟨p0,p1,p2,p3,p4,p5,p6⟩).toArray 227))/\lq (wr.alloc (.cells (nH ⟨p0,p1,p2,p3,p4,p5,p6⟩).toArray 227)) gx 227 #[p0,p1,p2,p3,p4,p5,p6]):=X6 ⟨HP.lR bA,lq.at_ _ _ _ DR⟩;have HGX:Hid (gf+1<gx):=X6 (by rw[DR];have:=HP.b.lt;omega);rw[<-DR];clear DR HP x0 VO HPC Nm hadp;generalize World.alloc wr _=wx at HX0⊢;obtain⟨ads,hAs,hads,hsc⟩:=HS.out w (ZN _ _) q hq;obtain⟨sk,hsk⟩:∃s,s=sL[q]:=⟨_,rfl⟩;rw[<-hsk]at hsc;subst hAs;have Tz:Hid (∀W,Below w.heap.size w W->∀j u,(lj sk)[j]? =some u->W.cell? ((ads.add (q*43)).add j)=some u):=X6 (λW hb j u hu=>(hb.cell (p:=(ads.add (q*43)).add j) (by rw[lp,lp];exact hads)).trans (hsc j u hu));have HADS:=X6 hads;clear hsk hsc hads;have o6:=HX0.2.get 6 (v:= .int .i64 p6) rfl;have xl:=HX0.2.lt;go_upto_region 32 with(first | refine nK rfl 63 (.tmp 135) rfl (ads.add (q*43)) rfl (lj sk) _ (Tz.out _ HX0.1.be) underlying63 rfl (by kernel_rfl) ?_ | (go_at_call 82;refine(rO _ _).mono ?_;rintro e wc ⟨⟨fx,fy,rfl⟩,mr⟩;have HX:Hid (yp w s (some Wp) ps gf gf (gf+1) wc/\lq wc gx 227 #[p0,p1,p2,p3,p4,p5,p6]):=X6 ⟨HX0.1.lR mr,HX0.2.below mr HX0.2.lt⟩;clear mr o6 xl));clear HX0;go_cut [151] (λv W=>(∃b:Bool,v= .bool b)/\Hid (yp w s (some Wp) ps gf gf (gf+1) W/\lq W gx 227 #[p0,p1,p2,p3,p4,p5,p6]));case first=>
       as_aux_lemma=>
       have y36:=HX.1.s.get 36 (v:= .int .u8 s.items) rfl;have sl:=HX.1.s.lt;have qu:ads.block<wc.heap.size:=YK HADS.out HX.1.be.size;have z6:wc.cell? (ads.block,(ads.add (q*43)).off+6)=some (.int .u8 sk.h.k):=(by rw[sV _ _ _ (by omega)];exact Tz.out _ HX.1.be 6 _ rfl);cases e1:(s.items == 3)
       ·go_wp2_with fail;go_meet;exact⟨⟨_,rfl⟩,HX⟩
       ·go_wp2_with fail;go_meet;exact⟨⟨_,rfl⟩,HX⟩
      case rest=>
      clear HX;obtain⟨⟨b1,rfl⟩,HX⟩:=hcut;go_upto_if 151 with(fail)
      go_cut [29] (λv W=>(∃x:Int,v= .int .i64 x)/\Hid (yp w s (some Wp) ps gf gf (gf+1) W/\lq W gx 227 #[p0,p1,p2,p3,p4,p5,p6]));case first=>
       as_aux_lemma=>
       cases b1
       ·go_wp2_with fail;go_meet;exact⟨⟨_,rfl⟩,HX⟩
       ·go_upto_region 33 with(fail);have SN:Hid (∀W',Below wc.heap.size wc W'->W'.cell? (gx,1)=p1/\W'.cell? (gx,2)=p2/\gx<W'.heap.size):=X6 (λW' hb=>⟨(HX.2.below hb HX.2.lt).get 1 rfl,(HX.2.below hb HX.2.lt).get 2 rfl,(HX.2.below hb HX.2.lt).lt⟩);have E0:Below wc.heap.size wc wc.drew:=(ZN _ _).drew;refine wp_region_held_drew (S:=λW=>Below wc.heap.size wc W) (by kernel_rfl) E0 (λhS=>?_);refine nk [0,1,2] ?_;iterate 3
         refine tk hS (y:=by intro W' lr;obtain⟨o1,o2,xl⟩:=SN.out W' lr;go_simp;rfl) (h:=?_)
        refine np ?_;refine wpAnyH_take (i:=3) (v:= .agg (lj sk).toArray) rfl (by kernel_rfl) (by kernel_rfl) (by kernel_rfl) (λ_ _ _ h=>h) (mK (by rfl) 63 (.tmp 154) rfl (ads.add (q*43)) rfl (lj sk) _ (λW' lr=>Tz.out W' (HX.1.be.trans (lr.mono HX.1.be.size))) underlying63 rfl (by kernel_rfl)) hS ?_;try simp only[Act.put,X8,YF,YE,YD,YA,YB]
        refine nk [4,5,6,7,8,9,10,11,12,13,15] ?_;iterate 11
         refine tk hS (y:=by intro W' lr;obtain⟨o1,o2,xl⟩:=SN.out W' lr;go_simp;rfl) (h:=?_)
        refine np ?_;refine mV 14 (λK hK=>?_);go_simp;refine(uY sk _ _).mono ?_;rintro e w9 ⟨⟨hx,rfl,hx0⟩,mH⟩;have V8:=X6 (hS.trans (mH.mono hS.size));clear mH hx0;refine ky hK V8.out λhS=>?_;clear hK;refine nk [16,17] ?_;iterate 2
         refine tk hS (y:=by intro W' lr;obtain⟨o1,o2,xl⟩:=SN.out W' lr;go_simp;rfl) (h:=?_)
        refine np ?_;refine nR ?_;clear hS;go_wp2_with fail;go_meet;exact⟨⟨_,rfl⟩,X6 ⟨HX.1.lR V8.out,HX.2.below V8.out HX.2.lt⟩⟩
      case rest=>
      clear HX;obtain⟨⟨h1,rfl⟩,HX⟩:=hcut;have o1:=HX.2.get 1 (v:= .int .i64 p1) rfl;have o2:=HX.2.get 2 (v:= .int .i64 p2) rfl;have xl:=HX.2.lt;have y36:=HX.1.s.get 36 (v:= .int .u8 s.items) rfl;have sl:=HX.1.s.lt;go_upto_block 7 with(fail)
      clear o1 o2 xl y36 sl;go_cut [32] (λv W=>(∃x:Int,v= .int .i64 x)/\Hid (yp w s (some Wp) ps gf gf (gf+1) W/\lq W gx 227 #[p0,p1,p2,p3,p4,p5,p6]));case first=>
       as_aux_lemma=>
       cases e1:(s.items == 1)
       ·cases e2:(s.items == 2)
        ·go_wp2_with fail;go_meet;exact⟨⟨_,rfl⟩,HX⟩
        ·go_wp2_with (go_at_call 139;refine(Ha _ _).mono ?_;rintro e w7 ⟨⟨x2,rfl⟩,rfl⟩);go_meet;exact⟨⟨_,rfl⟩,HX⟩
       ·go_wp2_with fail;go_meet;exact⟨⟨_,rfl⟩,HX⟩
      case rest=>
      clear HX;obtain⟨⟨y1,rfl⟩,HX⟩:=hcut;go_upto_region 42 with(fail)
      go_cut [206] (λv W=>(∃b:Bool,v= .bool b/\(b=true->1<R.length))/\Hid (yp w s (some Wp) ps gf gf (gf+1) W/\lq W gx 227 #[p0,p1,p2,p3,p4,p5,p6]));case first=>
       as_aux_lemma=>
       have y35:=HX.1.s.get 35 (v:= .int .u8 s.vx) rfl;have sl:=HX.1.s.lt;cases e1:(s.vx == 3)
       ·go_wp2_with fail;go_meet;exact⟨⟨_,rfl,λh=>by cases h⟩,HX⟩
       ·cases e2:decide (0<fr)
        ·go_wp2_with fail;go_meet;exact⟨⟨_,rfl,λh=>by cases h⟩,HX⟩
        ·by_cases h9:1<R.length
         ·have e3:decide ((1:Int)<(R.length:Int))=true:=YC (by omega);have e3':decide (1<R.length)=true:=YC h9;have H9:=X6 h9;clear h9;go_wp2_with fail;go_meet;exact⟨⟨_,rfl,λ_=>H9.out⟩,HX⟩
         ·have e3:decide ((1:Int)<(R.length:Int))=false:=X9 (by omega);have e3':decide (1<R.length)=false:=X9 h9;clear h9;go_wp2_with fail;go_meet;exact⟨⟨_,rfl,λh=>by cases h⟩,HX⟩
      case rest=>
      clear HX;obtain⟨⟨b2,rfl,mr⟩,HX⟩:=hcut;go_upto_if 206 with(fail)
      go_cut [34] (λv W=>(∃x:Int,v= .int .i64 x)/\Hid (yp w s (some Wp) ps gf gf (gf+1) W/\lq W gx 227 #[p0,p1,p2,p3,p4,p5,p6]));case first=>
       as_aux_lemma=>
       cases b2
       ·clear mr;go_wp2_with fail;go_meet;exact⟨⟨_,rfl⟩,HX⟩
       ·have h1:=mr rfl;clear mr;have hw:IntKind.i64.wrap ((R.length:Int)-1)=(R.length:Int)-1:=YG _ ⟨by omega,by have:=HRn.out;omega⟩;have Gg:((R.length:Int)-1 == 0)=false:=ZO.2 (by omega);have Oy:((R.length:Int)-1=0)=False:=(by simp;omega);clear h1;go_upto_region 44 with(fail)
        go_quiet (fail);go_wp2_with fail;go_meet;exact⟨⟨_,rfl⟩,X6 ⟨HX.1.lR (oQ (ZN _ _) nq),HX.2⟩⟩
      case rest=>
      clear HX mr;obtain⟨⟨m1,rfl⟩,HX⟩:=hcut;as_aux_lemma=>
      have o0:=HX.2.get 0 (v:= .int .i64 p0) rfl;have o4:=HX.2.get 4 (v:= .int .i64 p4) rfl;have o5:=HX.2.get 5 (v:= .int .i64 p5) rfl;have xl:=HX.2.lt;have hgx1:gx≠gf:=(by have:=HGX.out;omega);have hgx2:gf≠gx:=(by have:=HGX.out;omega);have pW:q<ps.length:=(by rw[Tk.out];exact hq);obtain⟨F,-,g0,g1,g2,g3,g4⟩:=HX.1.f.at_ pW;have gl:=HX.1.f.lt;have gz:=HX.1.f.frozen;have hqn:(q:Int)<(sL.length:Int):=(by omega);have AK:=X6 (λx y d g=>HX.1.frag (A:=none) (c:=0) (ls:=[]) pW x y d g (oh.nil _ _));go_wp2_with fail;go_roundw;case rel=>exact⟨j+1,_,by omega,rfl,by go_num,X6 (AK.out _ _ _ _)⟩
      case measure=>simp[intOf];omega
     ·have f1:decide ((j:Int)<(R.length:Int))=false:=X9 (by omega);have f1':decide (j<R.length)=false:=X9 FA;as_aux_lemma=>
      go_wp2_with fail;go_roundw;case rel=>exact⟨r+1,_,by omega,rfl,by go_num,HP⟩
      case measure=>simp[intOf];omega
end
end Go.Proofs.YtjhingednpjogaaGreat
