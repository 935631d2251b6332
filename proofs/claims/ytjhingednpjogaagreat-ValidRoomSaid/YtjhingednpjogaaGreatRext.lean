/- Lemmas for ValidRoom; laid together by a program. -/
import Derived.Test.YtjhingednpjogaaGreatTrp
import Derived.Deep.RegionLaw
set_option linter.all false
set_option maxRecDepth 100000
set_option maxHeartbeats 4000000
namespace Go.Proofs.YtjhingednpjogaaGreat
open Go.Proofs.Tryz
open Go.RowKit
attribute [local go_sem] lp
theorem uO(a b:Int):(if a<b then b else a)=max a b:=by rw[Int.max_def];split<;>split<;>omega
theorem Dj(rl:List Int)(a b:Int):lY (rl++[a,b])=lY rl++[.int .i64 a,.int .i64 b]:=by simp[lY]
theorem Is{l:List Wd}{q:Nat}{s X:Int}(hq:q<l.length)(hf:¬0<l[q].forced)(h:s+po l q=X):s+(l[q].w+l[q].gap)+po l (q+1)=X:=by rw[xA l hq,YO hf]at h;omega
theorem sQ{l:List Wd}{q:Nat}{s X:Int}(hq:q=l.length\/∃h:q<l.length,0<l[q].forced)(h:s+po l q=X):s=X:=by
 rcases hq with rfl | ⟨h1,h2⟩
 ·rw[EM l (X7 _)]at h;omega
 ·rw[xA l h1,YP h2]at h;omega
theorem Xv(l:List Wd)(A:Option Addr)(c:Nat)(w:World)(hl:VH l)(hn:l.length<=500000)(hr:Reads w w.heap.size 5 A l.length (mC l)): Calls prog 74 #[.slice A l.length c] w λe w'=>e= .returned (.tuple #[.int .i64 (xy l).1,.int .i64 (xy l).2.1,.bool (xy l).2.2])/\Below w.heap.size w w':=by
 have HL:=X6 hr;clear hr;go_enter func74,ntmps74;go_wp2_with fail;go_loopw [5,6,7,8] (λs g f i wr=>∃k:Nat,k<=l.length/\i= .int .i64 k/\s= .int .i64 (oM l k).least/\g= .int .i64 (uf l k).1/\f= .bool (uf l k).2/\Below w.heap.size w wr) (λ_ _ _ i _=>l.length-(intOf i).toNat);case atStart=>exact⟨0,by omega,rfl,rfl,rfl,rfl,ZN _ _⟩
 case round=>
  obtain⟨k,hk,rfl,rfl,rfl,rfl,hw⟩:=hrel;by_cases lN:k<l.length
  ·obtain⟨ad,rfl,qu,a0,a1,a2,a3,a4⟩:=(HL.below hw).wd rfl lN;have hX:=hl.at_ lN;have uJ:=X6 (Nu l lN);have Lv:=X6 (refG_go l lN);have TJ:=X6 (WU l lN);obtain⟨x,hx⟩:∃x,l[k]=x:=⟨_,rfl⟩;rw[hx]at a0 a1 a2 a3 a4 hX uJ Lv TJ;clear hx;clear a0 a1 a3;obtain⟨m,hm⟩:∃m,(oM l k).least=m:=⟨_,rfl⟩;rw[hm]at uJ;simp only[hm];clear hm;obtain⟨gg,hgg⟩:∃gg,(uf l k).1=gg:=⟨_,rfl⟩;obtain⟨fb,Eo⟩:∃fb,(uf l k).2=fb:=⟨_,rfl⟩;have HGF:=X6 (And.intro hgg Eo);rw[hgg,Eo]at TJ;simp only[hgg,Eo];clear hgg Eo;by_cases zD:k=0
   ·have HE:Hid (pS k m x=x.w):=X6 (by simp[pS,zD]);have HS:Hid (qd k x=true):=X6 (by simp[qd,zD]);have e0:((k:Int) == 0)=true:=(by simp[zD]);have e1:decide ((0:Int)<(k:Int))=false:=(by simp[zD]);have zH:k<=0:=(by omega);clear zD;go_wp2_with fail;obtain⟨wo,Bm⟩:∃wo:World,wo=wr:=⟨_,rfl⟩;subst Bm;have GA:=hw.size;have vU:(wo.alloc (.cells #[x.w] 2)).ownsRow w.heap.size 2 1 (.slice wo.heap.size 1 1) 1 (lY [x.w]):=aC2 wo #[.int .i64 x.w] 1 GA (by decide) rfl;have KS:Below w.heap.size w (wo.alloc (.cells #[x.w] 2)):=hw.alloc GA _;have Bf:=TJ.out HS.out;obtain⟨X,T3⟩:∃X,x.w+po l (k+1)=X:=⟨_,rfl⟩;rw[T3]at Bf;have JV:=X6 Bf;have pV:=X6 T3;clear Bf T3 a2 a4 e0 e1;go_loopw [9,10] (λr q wr=>∃(z:Nat) (rl:List Int),k<z/\z<=l.length/\q= .int .i64 z/\wr.ownsRow w.heap.size 2 1 r rl.length (lY rl)/\rM rl/\rl.length<=2*z/\rl.sum+po l z=X/\Below w.heap.size w wr) (λ_ q _=>l.length-(intOf q).toNat);case atStart=>exact⟨k+1,[x.w],by omega,by omega,by go_num,vU,by intro y hy;rw[aA0]at hy;subst hy;exact hX.1,by simp;omega,by rw[<-pV.out];simp,KS⟩
    case round=>
     clear vU KS hw;obtain⟨z,rl,hz0,hz1,rfl,lV,tf,Yh,LL,hw⟩:=hrel;obtain⟨Ar,cr,rfl⟩:=lZ lV;have EB:=X6 LL;clear LL;by_cases OM:z<l.length
     ·obtain⟨Rv,he,QV,b0,b1,b2,b3,b4⟩:=(HL.below hw).wd rfl OM;injection he with he;subst he;have hzz:(z:Int)<(l.length:Int):=(by omega);have hY:=hl.at_ OM;have LH:=X6 (λhf=>Is (X:=X) OM hf EB.out);have Lg:=X6 (λhf:0<l[z].forced=>sQ (.inr ⟨OM,hf⟩) EB.out);obtain⟨y,hy⟩:∃y,l[z]=y:=⟨_,rfl⟩;rw[hy]at b2 b3 b4 hY LH Lg;clear hy b0 b1 QV;by_cases D9:0<y.forced
      ·have e4:decide (y.forced<=0)=false:=X9 (by omega);have HT:=X6 (Lg.out D9);have xG:rl.length<=1048000:=(by omega);have HC:=X6 (ti rl Ar cr _ tf xG (Reads.mo lV));rw[HT.out]at HC;have wD:Hid (uf l (k+1)=(max gg (lU X),fb || mG X)):=JV;obtain⟨ob,qM⟩:∃ob,mG X=ob:=⟨_,rfl⟩;rw[qM]at HC wD;clear qM;go_wp2_with fail;refine HC.mono ?_;rintro e W1 ⟨rfl,JP⟩;have mW:=hw.trans (JP.mono hw.size);cases ob<;>cases fb;all_goals
        go_wp2_with fail;go_roundw;case rel=>exact⟨k+1,by omega,by go_num,by rw[uJ.out,HE.out],by rw[wD.out,uO],by rw[wD.out];rfl,mW⟩
        case measure=>simp[intOf];omega
      ·have e4:decide (y.forced<=0)=true:=YC (by omega);have HQ:=X6 (LH.out D9);have hmix:prog.follows .mixedOrders=true:=(by kernel_rfl);have Ls:wr.drew.ownsRow w.heap.size 2 1 (.slice Ar rl.length cr) rl.length (lY rl):=lV;have hwD:=hw.drew;clear D9;go_wp2_with fail
       go_region_law (refine AW (m:=2) rfl _ _ rfl Ja Ls hwD.size rfl [_,_] rfl (by simp) (by simp[Value.oneCell']) (by omega) (by omega) ?_;intro A' c' w' nZ hB hg _)
       all_goals
        go_wp2_with fail;go_roundw;case rel=>exact⟨z+1,rl++[y.w,y.gap],by omega,by omega,by go_num,by rw[Dj,YM];exact nZ,by intro v hv;rcases YW.1 hv with hv | hv;exact tf v hv;simp at hv;rcases hv with rfl | rfl;exact hY.1;exact hY.2,by simp;omega,by rw[Xn];simpa using HQ.out,hB _ _ (X7 _) hwD⟩
        case measure=>simp[intOf];omega
     ·obtain rfl:z=l.length:=(by omega);have HT:=X6 (sQ (.inl rfl) EB.out);have xG:rl.length<=1048000:=(by omega);have HC:=X6 (ti rl Ar cr _ tf xG (Reads.mo lV));rw[HT.out]at HC;have wD:Hid (uf l (k+1)=(max gg (lU X),fb || mG X)):=JV;obtain⟨ob,qM⟩:∃ob,mG X=ob:=⟨_,rfl⟩;rw[qM]at HC wD;clear qM;go_wp2_with fail;refine HC.mono ?_;rintro e W1 ⟨rfl,JP⟩;have mW:=hw.trans (JP.mono hw.size);cases ob<;>cases fb;all_goals
       go_wp2_with fail;go_roundw;case rel=>exact⟨k+1,by omega,by go_num,by rw[uJ.out,HE.out],by rw[wD.out,uO],by rw[wD.out];rfl,mW⟩
       case measure=>simp[intOf];omega
   ·have e0:((k:Int) == 0)=false:=(by simp[zD]);have e1:decide ((0:Int)<(k:Int))=true:=(by simp;omega);by_cases hlw:m<x.w
    ·have HE:Hid (pS k m x=x.w):=X6 (by simp[pS,hlw]);have e2:decide (m<x.w)=true:=YC hlw;by_cases hf:0<x.forced
     ·have HS:Hid (qd k x=true):=X6 (by simp[qd,hf]);have e3:decide (x.forced<=0)=false:=X9 (by omega);go_wp2_with fail;obtain⟨wo,Bm⟩:∃wo:World,wo=wr:=⟨_,rfl⟩;subst Bm;have GA:=hw.size;have vU:(wo.alloc (.cells #[x.w] 2)).ownsRow w.heap.size 2 1 (.slice wo.heap.size 1 1) 1 (lY [x.w]):=aC2 wo #[.int .i64 x.w] 1 GA (by decide) rfl;have KS:Below w.heap.size w (wo.alloc (.cells #[x.w] 2)):=hw.alloc GA _;have Bf:=TJ.out HS.out;obtain⟨X,T3⟩:∃X,x.w+po l (k+1)=X:=⟨_,rfl⟩;rw[T3]at Bf;have JV:=X6 Bf;have pV:=X6 T3;clear Bf T3 a2 a4 e0 e1;go_loopw [9,10] (λr q wr=>∃(z:Nat) (rl:List Int),k<z/\z<=l.length/\q= .int .i64 z/\wr.ownsRow w.heap.size 2 1 r rl.length (lY rl)/\rM rl/\rl.length<=2*z/\rl.sum+po l z=X/\Below w.heap.size w wr) (λ_ q _=>l.length-(intOf q).toNat);case atStart=>exact⟨k+1,[x.w],by omega,by omega,by go_num,vU,by intro y hy;rw[aA0]at hy;subst hy;exact hX.1,by simp;omega,by rw[<-pV.out];simp,KS⟩
      case round=>
       clear vU KS hw;obtain⟨z,rl,hz0,hz1,rfl,lV,tf,Yh,LL,hw⟩:=hrel;obtain⟨Ar,cr,rfl⟩:=lZ lV;have EB:=X6 LL;clear LL;by_cases OM:z<l.length
       ·obtain⟨Rv,he,QV,b0,b1,b2,b3,b4⟩:=(HL.below hw).wd rfl OM;injection he with he;subst he;have hzz:(z:Int)<(l.length:Int):=(by omega);have hY:=hl.at_ OM;have LH:=X6 (λhf=>Is (X:=X) OM hf EB.out);have Lg:=X6 (λhf:0<l[z].forced=>sQ (.inr ⟨OM,hf⟩) EB.out);obtain⟨y,hy⟩:∃y,l[z]=y:=⟨_,rfl⟩;rw[hy]at b2 b3 b4 hY LH Lg;clear hy b0 b1 QV;by_cases D9:0<y.forced
        ·have e4:decide (y.forced<=0)=false:=X9 (by omega);have HT:=X6 (Lg.out D9);have xG:rl.length<=1048000:=(by omega);have HC:=X6 (ti rl Ar cr _ tf xG (Reads.mo lV));rw[HT.out]at HC;have wD:Hid (uf l (k+1)=(max gg (lU X),fb || mG X)):=JV;obtain⟨ob,qM⟩:∃ob,mG X=ob:=⟨_,rfl⟩;rw[qM]at HC wD;clear qM;go_wp2_with fail;refine HC.mono ?_;rintro e W1 ⟨rfl,JP⟩;have mW:=hw.trans (JP.mono hw.size);cases ob<;>cases fb;all_goals
          go_wp2_with fail;go_roundw;case rel=>exact⟨k+1,by omega,by go_num,by rw[uJ.out,HE.out],by rw[wD.out,uO],by rw[wD.out];rfl,mW⟩
          case measure=>simp[intOf];omega
        ·have e4:decide (y.forced<=0)=true:=YC (by omega);have HQ:=X6 (LH.out D9);have hmix:prog.follows .mixedOrders=true:=(by kernel_rfl);have Ls:wr.drew.ownsRow w.heap.size 2 1 (.slice Ar rl.length cr) rl.length (lY rl):=lV;have hwD:=hw.drew;clear D9;go_wp2_with fail
         go_region_law (refine AW (m:=2) rfl _ _ rfl Ja Ls hwD.size rfl [_,_] rfl (by simp) (by simp[Value.oneCell']) (by omega) (by omega) ?_;intro A' c' w' nZ hB hg _)
         all_goals
          go_wp2_with fail;go_roundw;case rel=>exact⟨z+1,rl++[y.w,y.gap],by omega,by omega,by go_num,by rw[Dj,YM];exact nZ,by intro v hv;rcases YW.1 hv with hv | hv;exact tf v hv;simp at hv;rcases hv with rfl | rfl;exact hY.1;exact hY.2,by simp;omega,by rw[Xn];simpa using HQ.out,hB _ _ (X7 _) hwD⟩
          case measure=>simp[intOf];omega
       ·obtain rfl:z=l.length:=(by omega);have HT:=X6 (sQ (.inl rfl) EB.out);have xG:rl.length<=1048000:=(by omega);have HC:=X6 (ti rl Ar cr _ tf xG (Reads.mo lV));rw[HT.out]at HC;have wD:Hid (uf l (k+1)=(max gg (lU X),fb || mG X)):=JV;obtain⟨ob,qM⟩:∃ob,mG X=ob:=⟨_,rfl⟩;rw[qM]at HC wD;clear qM;go_wp2_with fail;refine HC.mono ?_;rintro e W1 ⟨rfl,JP⟩;have mW:=hw.trans (JP.mono hw.size);cases ob<;>cases fb;all_goals
         go_wp2_with fail;go_roundw;case rel=>exact⟨k+1,by omega,by go_num,by rw[uJ.out,HE.out],by rw[wD.out,uO],by rw[wD.out];rfl,mW⟩
         case measure=>simp[intOf];omega
     ·have HS:Hid (qd k x=false):=X6 (by simp[qd,hf,zD]);have e3:decide (x.forced<=0)=true:=YC (by omega);go_wp2_with fail;go_roundw;case rel=>exact⟨k+1,by omega,by go_num,by rw[uJ.out,HE.out],by rw[Lv.out HS.out,HGF.1],by rw[Lv.out HS.out,HGF.2],hw⟩
      case measure=>simp[intOf];omega
    ·have HE:Hid (pS k m x=m):=X6 (by simp[pS,hlw,zD]);have e2:decide (m<x.w)=false:=X9 hlw;by_cases hf:0<x.forced
     ·have HS:Hid (qd k x=true):=X6 (by simp[qd,hf]);have e3:decide (x.forced<=0)=false:=X9 (by omega);go_wp2_with fail;obtain⟨wo,Bm⟩:∃wo:World,wo=wr:=⟨_,rfl⟩;subst Bm;have GA:=hw.size;have vU:(wo.alloc (.cells #[x.w] 2)).ownsRow w.heap.size 2 1 (.slice wo.heap.size 1 1) 1 (lY [x.w]):=aC2 wo #[.int .i64 x.w] 1 GA (by decide) rfl;have KS:Below w.heap.size w (wo.alloc (.cells #[x.w] 2)):=hw.alloc GA _;have Bf:=TJ.out HS.out;obtain⟨X,T3⟩:∃X,x.w+po l (k+1)=X:=⟨_,rfl⟩;rw[T3]at Bf;have JV:=X6 Bf;have pV:=X6 T3;clear Bf T3 a2 a4 e0 e1;go_loopw [9,10] (λr q wr=>∃(z:Nat) (rl:List Int),k<z/\z<=l.length/\q= .int .i64 z/\wr.ownsRow w.heap.size 2 1 r rl.length (lY rl)/\rM rl/\rl.length<=2*z/\rl.sum+po l z=X/\Below w.heap.size w wr) (λ_ q _=>l.length-(intOf q).toNat);case atStart=>exact⟨k+1,[x.w],by omega,by omega,by go_num,vU,by intro y hy;rw[aA0]at hy;subst hy;exact hX.1,by simp;omega,by rw[<-pV.out];simp,KS⟩
      case round=>
       clear vU KS hw;obtain⟨z,rl,hz0,hz1,rfl,lV,tf,Yh,LL,hw⟩:=hrel;obtain⟨Ar,cr,rfl⟩:=lZ lV;have EB:=X6 LL;clear LL;by_cases OM:z<l.length
       ·obtain⟨Rv,he,QV,b0,b1,b2,b3,b4⟩:=(HL.below hw).wd rfl OM;injection he with he;subst he;have hzz:(z:Int)<(l.length:Int):=(by omega);have hY:=hl.at_ OM;have LH:=X6 (λhf=>Is (X:=X) OM hf EB.out);have Lg:=X6 (λhf:0<l[z].forced=>sQ (.inr ⟨OM,hf⟩) EB.out);obtain⟨y,hy⟩:∃y,l[z]=y:=⟨_,rfl⟩;rw[hy]at b2 b3 b4 hY LH Lg;clear hy b0 b1 QV;by_cases D9:0<y.forced
        ·have e4:decide (y.forced<=0)=false:=X9 (by omega);have HT:=X6 (Lg.out D9);have xG:rl.length<=1048000:=(by omega);have HC:=X6 (ti rl Ar cr _ tf xG (Reads.mo lV));rw[HT.out]at HC;have wD:Hid (uf l (k+1)=(max gg (lU X),fb || mG X)):=JV;obtain⟨ob,qM⟩:∃ob,mG X=ob:=⟨_,rfl⟩;rw[qM]at HC wD;clear qM;go_wp2_with fail;refine HC.mono ?_;rintro e W1 ⟨rfl,JP⟩;have mW:=hw.trans (JP.mono hw.size);cases ob<;>cases fb;all_goals
          go_wp2_with fail;go_roundw;case rel=>exact⟨k+1,by omega,by go_num,by rw[uJ.out,HE.out],by rw[wD.out,uO],by rw[wD.out];rfl,mW⟩
          case measure=>simp[intOf];omega
        ·have e4:decide (y.forced<=0)=true:=YC (by omega);have HQ:=X6 (LH.out D9);have hmix:prog.follows .mixedOrders=true:=(by kernel_rfl);have Ls:wr.drew.ownsRow w.heap.size 2 1 (.slice Ar rl.length cr) rl.length (lY rl):=lV;have hwD:=hw.drew;clear D9;go_wp2_with fail
         go_region_law (refine AW (m:=2) rfl _ _ rfl Ja Ls hwD.size rfl [_,_] rfl (by simp) (by simp[Value.oneCell']) (by omega) (by omega) ?_;intro A' c' w' nZ hB hg _)
         all_goals
          go_wp2_with fail;go_roundw;case rel=>exact⟨z+1,rl++[y.w,y.gap],by omega,by omega,by go_num,by rw[Dj,YM];exact nZ,by intro v hv;rcases YW.1 hv with hv | hv;exact tf v hv;simp at hv;rcases hv with rfl | rfl;exact hY.1;exact hY.2,by simp;omega,by rw[Xn];simpa using HQ.out,hB _ _ (X7 _) hwD⟩
          case measure=>simp[intOf];omega
       ·obtain rfl:z=l.length:=(by omega);have HT:=X6 (sQ (.inl rfl) EB.out);have xG:rl.length<=1048000:=(by omega);have HC:=X6 (ti rl Ar cr _ tf xG (Reads.mo lV));rw[HT.out]at HC;have wD:Hid (uf l (k+1)=(max gg (lU X),fb || mG X)):=JV;obtain⟨ob,qM⟩:∃ob,mG X=ob:=⟨_,rfl⟩;rw[qM]at HC wD;clear qM;go_wp2_with fail;refine HC.mono ?_;rintro e W1 ⟨rfl,JP⟩;have mW:=hw.trans (JP.mono hw.size);cases ob<;>cases fb;all_goals
         go_wp2_with fail;go_roundw;case rel=>exact⟨k+1,by omega,by go_num,by rw[uJ.out,HE.out],by rw[wD.out,uO],by rw[wD.out];rfl,mW⟩
         case measure=>simp[intOf];omega
     ·have HS:Hid (qd k x=false):=X6 (by simp[qd,hf,zD]);have e3:decide (x.forced<=0)=true:=YC (by omega);go_wp2_with fail;go_roundw;case rel=>exact⟨k+1,by omega,by go_num,by rw[uJ.out,HE.out],by rw[Lv.out HS.out,HGF.1],by rw[Lv.out HS.out,HGF.2],hw⟩
      case measure=>simp[intOf];omega
  ·obtain rfl:k=l.length:=(by omega);have HG:=X6 (VG l);go_wp2_with fail;refine ZQ (v:= .tuple #[.int .i64 (oM l l.length).least,.int .i64 (uf l l.length).1,.bool (uf l l.length).2]) (by simp[results,results74,go_sem]) rfl ⟨?_,hw⟩;rw[HG.out];rfl
end Go.Proofs.YtjhingednpjogaaGreat
