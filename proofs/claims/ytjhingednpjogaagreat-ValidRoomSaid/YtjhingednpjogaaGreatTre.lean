/- Lemmas for ValidRoom; laid together by a program. -/
import Derived.Test.YtjhingednpjogaaGreatTrp
import Derived.Deep.CutRange
set_option linter.all false
set_option maxRecDepth 100000
set_option maxHeartbeats 2000000
open Go.RowKit
namespace Go.Proofs.YtjhingednpjogaaGreat
open Go.Proofs.Tryz
section
attribute [local go_sem] lp
def ry(k n:Int)(b:Bool):Bool:=
 if k=0 then n == 0 else if k=1 then decide (n<=1099511627776) && decide ((if b then -1099511627776 else 0)<=n)else if k=2 then decide (n<=100000) && decide ((if b then -100000 else 0)<=n)else false
theorem xO{k n:Int}{b:Bool}(h:ry k n b=true):(if b then -1099511627776 else 0)<=n/\n<=1099511627776:=by
 unfold ry at h;by_cases h0:k=0
 ·rw[YP h0]at h;simp at h;cases b<;>simp<;>omega
 ·rw[YO h0]at h;by_cases h1:k=1
  ·rw[YP h1]at h;cases b<;>simp at h⊢<;>omega
  ·rw[YO h1]at h;by_cases h2:k=2
   ·rw[YP h2]at h;cases b<;>simp at h⊢<;>omega
   ·rw[YO h2]at h;cases h
theorem may_any(k n:Int)(b:Bool)(w:World): Calls prog 189 #[.agg #[.int .u8 k,n],.bool b] w λe w'=>e= .returned (.bool (ry k n b))/\w.alloc (.cells #[.int .u8 k,n] 58)=w':=by
 by_cases h0:k=0
 ·have e0:(k == 0)=true:=ZR.2 h0;have HF:Hid (ry k n b=(n == 0)):=X6 (by unfold ry;rw[YP h0]);clear h0;cases b;all_goals
   go_enter func189,ntmps189;go_wp2;go_ret;exact⟨by rw[HF.out];rfl,rfl⟩
 have e0:(k == 0)=false:=ZO.2 h0;by_cases h1:k=1
 ·have e1:(k == 1)=true:=ZR.2 h1;cases b
  ·have HF:Hid (ry k n false=(decide (n<=1099511627776) && decide (0<=n))):=X6 (by unfold ry;rw[YO h0,YP h1];rfl);clear h0 h1;cases h2:decide (n<=1099511627776)<;>cases h3:decide (0<=n);all_goals
    go_enter func189,ntmps189;go_wp2;go_ret;exact⟨by rw[HF.out];simp[h2,h3],rfl⟩
  ·have HF:Hid (ry k n true=(decide (n<=1099511627776) && decide (-1099511627776<=n))):=X6 (by unfold ry;rw[YO h0,YP h1];rfl);clear h0 h1;cases h2:decide (n<=1099511627776)<;>cases h3:decide (-1099511627776<=n);all_goals
    go_enter func189,ntmps189;go_wp2;go_ret;exact⟨by rw[HF.out];simp[h2,h3],rfl⟩
 have e1:(k == 1)=false:=ZO.2 h1;by_cases h5:k=2
 ·have e2:(k == 2)=true:=ZR.2 h5;cases b
  ·have HF:Hid (ry k n false=(decide (n<=100000) && decide (0<=n))):=X6 (by unfold ry;rw[YO h0,YO h1,YP h5];rfl);clear h0 h1 h5;cases h2:decide (n<=100000)<;>cases h3:decide (0<=n);all_goals
    go_enter func189,ntmps189;go_wp2;go_ret;exact⟨by rw[HF.out];simp[h2,h3],rfl⟩
  ·have HF:Hid (ry k n true=(decide (n<=100000) && decide (-100000<=n))):=X6 (by unfold ry;rw[YO h0,YO h1,YP h5];rfl);clear h0 h1 h5;cases h2:decide (n<=100000)<;>cases h3:decide (-100000<=n);all_goals
    go_enter func189,ntmps189;go_wp2;go_ret;exact⟨by rw[HF.out];simp[h2,h3],rfl⟩
 have e2:(k == 2)=false:=ZO.2 h5;have HF:Hid (ry k n b=false):=X6 (by unfold ry;rw[YO h0,YO h1,YO h5]);clear h0 h1 h5;cases b;all_goals
  go_enter func189,ntmps189;go_wp2;go_ret;exact⟨by rw[HF.out];rfl,rfl⟩
end
section
attribute [local go_sem] lp
def zU(s:me):Nat->Ln | 0=>s.m0 | 1=>s.m1 | 2=>s.m2 | _=>s.m3
def EJ(s:me):Nat->Int | 0=>s.b0 | 1=>s.b1 | 2=>s.b2 | _=>s.b3
def DP(s:me):Nat->Int | 0=>s.p0 | 1=>s.p1 | 2=>s.p2 | _=>s.p3
theorem four{k:Nat}(h:k<4):k=0\/k=1\/k=2\/k=3:=by omega
theorem mg_k(s:me){k:Nat}(h:k<4):(lj s).toArray[16+k*2]? =some (.int .u8 (zU s k).k)/\(lj s).toArray[16+k*2+1]? =some (.int .i64 (zU s k).n)/\(lj s).toArray[24+k]? =some (.int .i64 (EJ s k))/\(lj s).toArray[28+k]? =some (.int .i64 (DP s k)):=by rcases four h with rfl | rfl | rfl | rfl<;>exact⟨rfl,rfl,rfl,rfl⟩
def zj(s:me):Nat->Ln | 0=>s.w | 1=>s.my | 2=>s.mz | _=>s.basis
def aak(s:me):Nat->Ln | 0=>s.h | 1=>s.xU | _=>s.xY
def Hu(s:me):Array Value:= #[.int .u8 s.w.k,.int .i64 s.w.n,.int .u8 s.my.k,.int .i64 s.my.n,.int .u8 s.mz.k,.int .i64 s.mz.n,.int .u8 s.basis.k,.int .i64 s.basis.n]
def GB(s:me):Array Value:= #[.int .u8 s.h.k,.int .i64 s.h.n,.int .u8 s.xU.k,.int .i64 s.xU.n,.int .u8 s.xY.k,.int .i64 s.xY.n]
theorem wd_k(s:me){k:Nat}(h:k<4):(Hu s)[k*2]? =some (.int .u8 (zj s k).k)/\(Hu s)[k*2+1]? =some (.int .i64 (zj s k).n):=by rcases four h with rfl | rfl | rfl | rfl<;>exact⟨rfl,rfl⟩
theorem hg_k(s:me){k:Nat}(h:k<3):(GB s)[k*2]? =some (.int .u8 (aak s k).k)/\(GB s)[k*2+1]? =some (.int .i64 (aak s k).n):=by
 have:k=0\/k=1\/k=2:=by omega
 rcases this with rfl | rfl | rfl<;>exact⟨rfl,rfl⟩
def P9(s:me)(k:Nat):Prop:=ry (zU s k).k (zU s k).n true=true/\0<=EJ s k/\EJ s k<=1099511627776/\0<=DP s k/\DP s k<=1099511627776
theorem ed_styB{s:me}(h1:∀j,j<4->P9 s j)(h2:∀j,j<4->ry (zj s j).k (zj s j).n false=true):zp s:=by have a1:=h1 1 (by omega);have a3:=h1 3 (by omega);have w0:=xO (h2 0 (by omega));have w1:=xO (h2 1 (by omega));have w2:=xO (h2 2 (by omega));have e1:=xO a1.1;have e3:=xO a3.1;simp[zU,zj]at w0 w1 w2 e1 e3;exact⟨w0,w2,w1,e1,e3,⟨a1.2.1,a1.2.2.1⟩,⟨a3.2.1,a3.2.2.1⟩,⟨a1.2.2.2.1,a1.2.2.2.2⟩,⟨a3.2.2.2.1,a3.2.2.2.2⟩⟩
theorem mayF_p{k n:Int}{b:Bool}(h:ry k n b=true):k=2->-100000<=n/\n<=100000:=λh2=>by
 unfold ry at h;rw[YO (by omega),YO (by omega),YP h2]at h;cases b<;>simp at h<;>omega
structure StyL(s:me):Prop where
 b:zp s
 lim:∀x,x=s.w\/x=s.mz\/x=s.my\/x=s.m1\/x=s.m3\/x=s.basis->(-1099511627776<=x.n/\x.n<=1099511627776)/\(x.k=2->-100000<=x.n/\x.n<=100000)
theorem ed_styL{s:me}(h1:∀j,j<4->P9 s j)(h2:∀j,j<4->ry (zj s j).k (zj s j).n false=true):StyL s:=by
 refine⟨ed_styB h1 h2,λx hx=>?_⟩;have key:∀{b:Bool} {y:Ln},ry y.k y.n b=true->(-1099511627776<=y.n/\y.n<=1099511627776)/\(y.k=2->-100000<=y.n/\y.n<=100000):=fun {b y} h=>by have h3:=xO h;refine⟨?_,mayF_p h⟩;cases b<;>simp at h3<;>omega
 rcases hx with rfl | rfl | rfl | rfl | rfl | rfl
 ·exact key (h2 0 (by omega))
 ·exact key (h2 2 (by omega))
 ·exact key (h2 1 (by omega))
 ·exact key (h1 1 (by omega)).1
 ·exact key (h1 3 (by omega)).1
 ·exact key (h2 3 (by omega))
def GrS(s:me):Prop:=(0<=s.grow/\s.grow<=60)/\0<=s.shrink/\s.shrink<=60
structure CF(p:Prop)(w w':World)(e:Ending):Prop where
 ex:∃b,e= .returned (.bool b)/\(b=true->p)
 b:Below w.heap.size w w'
theorem Zp(s:me)(w:World){Au:Option Addr}{nu cu:Nat}(huv:s.uv= .slice Au nu cu): Calls prog 120 #[.agg (lj s).toArray] w λe w'=>CF (StyL s/\GrS s) w w' e:=by
 have vS:Hid (lq (w.alloc (.cells (lj s).toArray 63)) w.heap.size 63 (lj s).toArray):=X6 (lq.new _ _ _);have HM:=X6 (λW k n b=>may_any k n b W);go_enter func120,ntmps120;go_wp2_with fail;go_loopw [3] (λkv wr=>∃k:Nat,k<=4/\kv= .int .i64 k/\Hid ((∀j,j<k->P9 s j)/\Below w.heap.size w wr/\lq wr w.heap.size 63 (lj s).toArray)) (λkv _=>4-(intOf kv).toNat);case atStart=>exact⟨0,by omega,rfl,X6 ⟨λj h=>by omega,bA,vS.out⟩⟩
 case round=>
  obtain⟨k,hk,rfl,H⟩:=hrel;by_cases lN:k<4
  ·obtain⟨m1,m2,m3,m4⟩:=mg_k s lN;have c1:=H.2.2.get _ m1;have c2:=H.2.2.get _ m2;have c3:=H.2.2.get _ m3;have c4:=H.2.2.get _ m4;have lb:=H.2.2.lt;have d0:decide ((k:Int)<4)=true:=YC (by omega);have hk4:(k:Int)<4:=(by omega);obtain⟨mk,tC⟩:∃x,x=(zU s k).k:=⟨_,rfl⟩;obtain⟨mn,Ma⟩:∃x,x=(zU s k).n:=⟨_,rfl⟩;obtain⟨bd,hbd⟩:∃x,x=EJ s k:=⟨_,rfl⟩;obtain⟨pd,hpd⟩:∃x,x=DP s k:=⟨_,rfl⟩;rw[<-tC]at c1;rw[<-Ma]at c2;rw[<-hbd]at c3;rw[<-hpd]at c4;have HE:Hid (P9 s k↔(ry mk mn true=true/\0<=bd/\bd<=1099511627776/\0<=pd/\pd<=1099511627776)):=X6 (by unfold P9;rw[tC,Ma,hbd,hpd]);clear m1 m2 m3 m4 tC Ma hbd hpd;go_wp2_with fail;refine(HM.out _ mk mn true).mono ?_;rintro e w1 ⟨rfl,rfl⟩;have mA:=X6 (H.2.1.alloc H.2.1.size (.cells #[.int .u8 mk,mn] 58));have nx:=X6 (H.2.2.alloc (.cells #[.int .u8 mk,mn] 58));cases h1:ry mk mn true
   ·go_wp2_with fail;go_ret;exact⟨⟨false,rfl,by simp⟩,mA.out⟩
   cases h2:decide (bd<0)
   rotate_left
   ·go_wp2_with fail;go_ret;exact⟨⟨false,rfl,by simp⟩,mA.out⟩
   cases h3:decide (1099511627776<bd)
   rotate_left
   ·go_wp2_with fail;go_ret;exact⟨⟨false,rfl,by simp⟩,mA.out⟩
   cases h4:decide (pd<0)
   rotate_left
   ·go_wp2_with fail;go_ret;exact⟨⟨false,rfl,by simp⟩,mA.out⟩
   cases h5:decide (1099511627776<pd)
   rotate_left
   ·go_wp2_with fail;go_ret;exact⟨⟨false,rfl,by simp⟩,mA.out⟩
   have HK:=X6 (HE.2 ⟨h1,by simpa using h2,by simpa using h3,by simpa using h4,by simpa using h5⟩);go_wp2_with fail;go_roundw;case rel=>exact⟨k+1,by omega,by go_num,X6 ⟨λj hj=>by
    by_cases he:j=k
    ·rw[he];exact HK.out
    ·exact H.1 j (by omega),mA.out,nx.out⟩⟩
   case measure=>simp[intOf];omega
  ·have d0:decide ((k:Int)<4)=false:=X9 (by omega);have HE:=X6 (show∀j,j<4->P9 s j from λj hj=>H.1 j (by omega));have c4:=H.2.2.get _ (Ok s);have c5:=H.2.2.get _ (MN s);have c6:=H.2.2.get _ (Wm s);have c7:=H.2.2.get _ (Wl s);have c8:=H.2.2.get _ (MG s);have c9:=H.2.2.get _ (Ml s);have tF:=H.2.2.get _ (IY s);have oN:=H.2.2.get _ (Jr s);have uT:=H.2.2.get _ (O1 s);have AV:=H.2.2.get _ (ON s);have BU:=H.2.2.get _ (OO s);have c15:=H.2.2.get _ (OQ s);have c40:=H.2.2.get _ (PL s);have c41:=H.2.2.get _ (PH s);have lb:=H.2.2.lt;go_wp2_with fail;obtain⟨W,hW⟩:∃W,W=(wr.alloc (.cells (Hu s) 58)).alloc (.cells (GB s) 58):=⟨_,rfl⟩;obtain⟨g1,Me⟩:∃g,g=wr.heap.size:=⟨_,rfl⟩;obtain⟨g2,Tw⟩:∃g,g=g1+1:=⟨_,rfl⟩;have H0:Hid (Below w.heap.size w W/\lq W w.heap.size 63 (lj s).toArray/\lq W g1 58 (Hu s)/\lq W g2 58 (GB s)):=X6 (by rw[hW];exact⟨(H.2.1.alloc H.2.1.size _).alloc (by have:=H.2.1.size;simp;omega) _,(H.2.2.alloc _).alloc _,(lq.at_ _ _ _ Me).alloc _,lq.at_ _ _ _ (by rw[Tw,Me];simp)⟩);simp only[<-Me,<-Tw];rw[show(wr.alloc (.cells #[.int .u8 s.w.k,s.w.n,.int .u8 s.my.k,s.my.n,.int .u8 s.mz.k,s.mz.n,.int .u8 s.basis.k,s.basis.n] 58)).alloc (.cells #[.int .u8 s.h.k,s.h.n,.int .u8 s.xU.k,s.xU.n,.int .u8 s.xY.k,s.xY.n] 58)=W from hW.symm];clear hW Me Tw c4 c5 c6 c7 c8 c9 tF oN uT AV BU c15 c40 c41 lb H;go_loopw [6] (λkv wr=>∃k:Nat,k<=4/\kv= .int .i64 k/\Hid ((∀j,j<k->ry (zj s j).k (zj s j).n false=true)/\Below w.heap.size w wr/\lq wr w.heap.size 63 (lj s).toArray/\lq wr g1 58 (Hu s)/\lq wr g2 58 (GB s))) (λkv _=>4-(intOf kv).toNat);case atStart=>exact⟨0,by omega,rfl,X6 ⟨λj h=>by omega,H0.out⟩⟩
   case round=>
    obtain⟨k,hk,rfl,H⟩:=hrel;by_cases lN:k<4
    ·obtain⟨m1,m2⟩:=wd_k s lN;have c1:=H.2.2.2.1.get _ m1;have c2:=H.2.2.2.1.get _ m2;have d0:decide ((k:Int)<4)=true:=YC (by omega);have hk4:(k:Int)<4:=(by omega);obtain⟨mk,tC⟩:∃x,x=(zj s k).k:=⟨_,rfl⟩;obtain⟨mn,Ma⟩:∃x,x=(zj s k).n:=⟨_,rfl⟩;rw[<-tC]at c1;rw[<-Ma]at c2;have HQ:Hid (ry mk mn false=true->ry (zj s k).k (zj s k).n false=true):=X6 (by rw[tC,Ma];exact id);clear m1 m2 tC Ma;go_wp2_with fail;refine(HM.out _ mk mn false).mono ?_;rintro e w1 ⟨rfl,rfl⟩;have mA:=X6 (H.2.1.alloc H.2.1.size (.cells #[.int .u8 mk,mn] 58));cases h1:ry mk mn false
     ·go_wp2_with fail;go_ret;exact⟨⟨false,rfl,by simp⟩,mA.out⟩
     have HK:=X6 (HQ.out h1);go_wp2_with fail;go_roundw;case rel=>exact⟨k+1,by omega,by go_num,X6 ⟨λj hj=>by
      by_cases he:j=k
      ·rw[he];exact HK.out
      ·exact H.1 j (by omega),mA.out,H.2.2.1.alloc _,H.2.2.2.1.alloc _,H.2.2.2.2.alloc _⟩⟩
     case measure=>simp[intOf];omega
    ·have d0:decide ((k:Int)<4)=false:=X9 (by omega);have vL:=X6 (show∀j,j<4->ry (zj s j).k (zj s j).n false=true from λj hj=>H.1 j (by omega));have H1:=X6 H.2;clear H;go_wp2_with fail;go_loopw [7] (λkv wr=>∃k:Nat,k<=3/\kv= .int .i64 k/\Hid (Below w.heap.size w wr/\lq wr w.heap.size 63 (lj s).toArray/\lq wr g1 58 (Hu s)/\lq wr g2 58 (GB s))) (λkv _=>3-(intOf kv).toNat);case atStart=>exact⟨0,by omega,rfl,H1⟩
     case round=>
      obtain⟨k,hk,rfl,H⟩:=hrel;by_cases lN:k<3
      ·obtain⟨m1,m2⟩:=hg_k s lN;have c1:=H.2.2.2.get _ m1;have c2:=H.2.2.2.get _ m2;have lg:=H.2.2.2.lt;have d0:decide ((k:Int)<3)=true:=YC (by omega);have hk4:(k:Int)<3:=(by omega);obtain⟨mk,tC⟩:∃x,x=(aak s k).k:=⟨_,rfl⟩;obtain⟨mn,Ma⟩:∃x,x=(aak s k).n:=⟨_,rfl⟩;rw[<-tC]at c1;rw[<-Ma]at c2;clear m1 m2 tC Ma;go_wp2_with fail;refine(HM.out _ mk mn false).mono ?_;rintro e w1 ⟨rfl,rfl⟩;have mA:=X6 (H.1.alloc H.1.size (.cells #[.int .u8 mk,mn] 58));cases h1:ry mk mn false
       ·go_wp2_with fail;go_ret;exact⟨⟨false,rfl,by simp⟩,mA.out⟩
       cases h2:(mk == 2)
       rotate_left
       ·go_wp2_with fail;go_ret;exact⟨⟨false,rfl,by simp⟩,mA.out⟩
       go_wp2_with fail;go_roundw;case rel=>exact⟨k+1,by omega,by go_num,X6 ⟨mA.out,H.2.1.alloc _,H.2.2.1.alloc _,H.2.2.2.alloc _⟩⟩
       case measure=>simp[intOf];omega
      ·have d0:decide ((k:Int)<3)=false:=X9 (by omega);have F9:=H.2.1;have c2:=F9.get _ (JK s);have c3:=F9.get _ (Im s);have c32:=F9.get _ (P1 s);have c33:=F9.get _ (PF s);have c35:=F9.get _ (Pw s);have c36:=F9.get _ (PR s);have c37:=F9.get _ (OS s);have c38:=F9.get _ (Pe s);have c39:=F9.get _ (OX s);have c42:=F9.get _ (IF s);rw[huv]at c42;clear F9;go_upto_region 18 with(fail)
       go_cut [8] (λs8 wx=>(∃b,s8= .bool b)/\wr=wx);case first=>go_wp2_with fail;all_goals (go_meet;case rel=>exact⟨⟨_,rfl⟩,rfl⟩)
       case rest=>
        obtain⟨⟨x8,rfl⟩,rfl⟩:=hcut;go_upto_region 19 with(fail);go_cut [9] (λs9 wx=>(∃b,s9= .bool b)/\wr=wx);case first=>go_wp2_with fail;all_goals (go_meet;case rel=>exact⟨⟨_,rfl⟩,rfl⟩)
        case rest=>
         obtain⟨⟨x9,rfl⟩,rfl⟩:=hcut;go_upto_region 20 with(fail);go_cut [10] (λs10 wx=>(∃b,s10= .bool b/\Hid (b=true->GrS s))/\wr=wx);case first=>
          cases g1:decide ((0:Int)<=s.grow)<;>cases g2:decide (s.grow<=60)<;>cases g3:decide ((0:Int)<=s.shrink)<;>cases g4:decide (s.shrink<=60)
          all_goals
           go_wp2_with fail;go_meet;case rel=>exact⟨⟨_,rfl,X6 (λh=>by first | (simp at h;done) | exact⟨⟨YZ g1,YZ g2⟩,YZ g3,YZ g4⟩)⟩,rfl⟩
         case rest=>
          obtain⟨⟨x10,rfl,HGR⟩,rfl⟩:=hcut;cases x10
          ·go_wp2_with fail;all_goals (go_ret;exact⟨⟨_,rfl,λh=>by simp at h⟩,H.1⟩)
          ·go_wp2_with fail;all_goals (go_ret;exact⟨⟨_,rfl,λ_=>⟨ed_styL HE.out vL.out,HGR.out (by simp)⟩⟩,H.1⟩)
end
section
attribute [local go_sem] lp
theorem NW:El prog 281 58 (.agg #[.int .u8 0,lx]) 2 16:=⟨underlying281,by kernel_rfl,rfl,by decide⟩
def oo(l:List Ln):List Value:=l.flatMap λx=>[.int .u8 x.k,.int .i64 x.n]
def zI(s:me)(k:Nat):List Ln:=[s.w,s.h,s.my,s.mz,s.xU,s.xY,s.basis]++(List.range k).map (zU s)
theorem O5(s:me)(k:Nat):(zI s k).length=7+k:=by simp[zI];omega
theorem V2(s:me)(k:Nat):oo (zI s k)++[.int .u8 (zU s k).k,.int .i64 (zU s k).n]=oo (zI s (k+1)):=by simp[zI,oo,Xb]
theorem Dk(l:List Ln):∀(k i:Nat) (hk:k<l.length),i<2->(oo l)[k*2+i]? =([Value.int .u8 l[k].k,.int .i64 l[k].n])[i]?:=by
 induction l with
 | nil=>intro k i hk;simp at hk
 | cons a t ih=>
  intro k i hk hi;have hc:oo (a::t)=[Value.int .u8 a.k,.int .i64 a.n]++oo t:=by simp[oo]
  rw[hc];rcases k with _ | k
  ·rw[YN (by simp;omega)];simp
  ·rw[YQ (by simp;omega),show(k+1)*2+i-([Value.int .u8 a.k,Value.int .i64 a.n]:List Value).length=k*2+i by simp;omega,ih k i (by simpa using hk) hi];simp
theorem RF{s:me}(h1:∀j,j<4->EJ s j=0/\DP s j=0)(h2:∀x∈zI s 4,x.k=0/\x.n=0):zp s:=by have hm:∀x,x=s.w\/x=s.mz\/x=s.my\/x=s.m1\/x=s.m3->x.n=0:=λx hx=>(h2 x (by simp only[zI,Xb,List.range_zero,ZJ,Y6,UU,zU,aBZ,YW,Y7];rcases hx with h | h | h | h | h<;>simp[h])).2;have a1:=h1 1 (by omega);have a3:=h1 3 (by omega);simp[EJ,DP]at a1 a3;have w1:=hm s.w (by simp);have w2:=hm s.mz (by simp);have w3:=hm s.my (by simp);have w4:=hm s.m1 (by simp);have w5:=hm s.m3 (by simp);constructor<;>omega
theorem RX{s:me}(h1:∀j,j<4->EJ s j=0/\DP s j=0)(h2:∀x∈zI s 4,x.k=0/\x.n=0):StyL s:=by refine⟨RF h1 h2,λx hx=>?_⟩;have:=h2 x (by simp only[zI,Xb,List.range_zero,ZJ,Y6,UU,zU,aBZ,YW,Y7];rcases hx with h | h | h | h | h | h<;>simp[h]);rw[this.1,this.2];omega
theorem IQ{w2 w4:World}{B:Nat}{ov:Value}{e:TypeId}{size n:Nat}{xs:List Value}{g:Nat}{t:TypeId}{cs:Array Value}(ho:w2.ownsRow B e size ov n xs)(hg:w2.grownBy w4 ov.ownBlock)(hb:lq w2 g t cs)(hl:g<B):lq w4 g t cs:=hb.grown hg (pg ho hl)
theorem Sw(s:me)(w:World){Au:Option Addr}{nu cu:Nat}(huv:s.uv= .slice Au nu cu): Calls prog 121 #[.agg (lj s).toArray] w λe w'=>CF (StyL s) w w' e:=by
 have vS:Hid (lq (w.alloc (.cells (lj s).toArray 63)) w.heap.size 63 (lj s).toArray):=X6 (lq.new _ _ _);have b4:=vS.get _ (Ok s);have b5:=vS.get _ (MN s);have b6:=vS.get _ (Wm s);have b7:=vS.get _ (Wl s);have b8:=vS.get _ (MG s);have b9:=vS.get _ (Ml s);have sr:=vS.get _ (IY s);have py:=vS.get _ (Jr s);have sJ:=vS.get _ (O1 s);have pB:=vS.get _ (ON s);have rU:=vS.get _ (OO s);have sS:=vS.get _ (OQ s);have b40:=vS.get _ (PL s);have b41:=vS.get _ (PH s);go_enter func121,ntmps121;go_wp2_with fail;go_loopw [3,4] (λv kv wr=>∃k:Nat,k<=4/\kv= .int .i64 k/\Hid ((∀j,j<k->EJ s j=0/\DP s j=0)/\wr.ownsRow (w.heap.size+1) 58 2 v (7+k) (oo (zI s k))/\Below w.heap.size w wr/\lq wr w.heap.size 63 (lj s).toArray)) (λ_ kv _=>4-(intOf kv).toNat);case atStart=>refine⟨0,by omega,rfl,X6 ⟨λj h=>by omega,⟨by simp[oo,zI],.inr ⟨w.heap.size+1,7,(oo (zI s 0)).toArray,rfl,X7 _,?_,by omega,by unfold maxLen;omega,by simp[oo,zI],by simp[oo,zI]⟩⟩,bA.alloc (by simp) _,vS.alloc _⟩⟩;have:=aCW (w.alloc (.cells (lj s).toArray 63)) (.cells (oo (zI s 0)).toArray 58);simpa[oo,zI]using this
 case round=>
  clear b4 b5 b6 b7 b8 b9 sr py sJ pB rU sS b40 b41;obtain⟨k,hk,rfl,H⟩:=hrel;by_cases lN:k<4
  ·obtain⟨m1,m2,m3,m4⟩:=mg_k s lN;have c1:=H.2.2.2.get _ m1;have c2:=H.2.2.2.get _ m2;have lb:=H.2.2.2.lt;have d0:decide ((k:Int)<4)=true:=YC (by omega);have hk4:(k:Int)<4:=(by omega);obtain⟨mk,tC⟩:∃x,x=(zU s k).k:=⟨_,rfl⟩;obtain⟨mn,Ma⟩:∃x,x=(zU s k).n:=⟨_,rfl⟩;obtain⟨bd,hbd⟩:∃x,x=EJ s k:=⟨_,rfl⟩;obtain⟨pd,hpd⟩:∃x,x=DP s k:=⟨_,rfl⟩;rw[<-tC]at c1;rw[<-Ma]at c2;rw[<-hbd]at m3;rw[<-hpd]at m4;have HE:Hid (bd=0->pd=0->EJ s k=0/\DP s k=0):=X6 (by rw[hbd,hpd];exact λa b=>⟨a,b⟩);have HS:Hid (oo (zI s k)++[.int .u8 mk,.int .i64 mn]=oo (zI s (k+1))):=X6 (by rw[tC,Ma];exact V2 s k);have KB:=X6 H.2.1;have Cu:=X6 (show w.heap.size+1<=wr.heap.size by omega);have M3:=X6 m3;have M4:=X6 m4;have n7:7+k<=11:=(by omega);clear m1 m2 m3 m4 tC Ma hbd hpd;cases h2:(bd == 0)
   ·have h2':(bd != 0)=true:=(by rw[bne,h2];rfl);go_wp2_with (at_builtin;refine lM (m:=1) rfl _ _ rfl NW KB.out Cu.out rfl [.int .u8 mk,.int .i64 mn] rfl (by simp) (by simp[Value.oneCell']) (by omega) (by omega) ?_;intro A' c' w1 lV hB hg qM;have bx:=IQ KB.out hg H.2.2.2 (by omega);have c3:=bx.get _ M3.out;have c4:=bx.get _ M4.out);go_ret;exact⟨⟨false,rfl,by simp⟩,hB _ _ (by omega) H.2.2.1⟩
   have h2':(bd != 0)=false:=(by rw[bne,h2];rfl);cases h3:(pd == 0)
   ·have h3':(pd != 0)=true:=(by rw[bne,h3];rfl);go_wp2_with (at_builtin;refine lM (m:=1) rfl _ _ rfl NW KB.out Cu.out rfl [.int .u8 mk,.int .i64 mn] rfl (by simp) (by simp[Value.oneCell']) (by omega) (by omega) ?_;intro A' c' w1 lV hB hg qM;have bx:=IQ KB.out hg H.2.2.2 (by omega);have c3:=bx.get _ M3.out;have c4:=bx.get _ M4.out);go_ret;exact⟨⟨false,rfl,by simp⟩,hB _ _ (by omega) H.2.2.1⟩
   have h3':(pd != 0)=false:=(by rw[bne,h3];rfl);have HZ:=X6 (HE.out (by simpa using h2) (by simpa using h3));go_wp2_with (at_builtin;refine lM (m:=1) rfl _ _ rfl NW KB.out Cu.out rfl [.int .u8 mk,.int .i64 mn] rfl (by simp) (by simp[Value.oneCell']) (by omega) (by omega) ?_;intro A' c' w1 lV hB hg qM;have bx:=IQ KB.out hg H.2.2.2 (by omega);have c3:=bx.get _ M3.out;have c4:=bx.get _ M4.out);rw[HS.out]at lV;go_roundw;case rel=>exact⟨k+1,by omega,by go_num,X6 ⟨λj hj=>by
    by_cases he:j=k
    ·rw[he];exact HZ.out
    ·exact H.1 j (by omega),lV,hB _ _ (by omega) H.2.2.1,bx⟩⟩
   case measure=>simp[intOf];omega
  ·have d0:decide ((k:Int)<4)=false:=X9 (by omega);have HE:=X6 (show∀j,j<4->EJ s j=0/\DP s j=0 from λj hj=>H.1 j (by omega));obtain rfl:k=4:=(by omega);obtain⟨g,cap,hv,zG,Je⟩:=World.ownsRow.form H.2.1 (by omega);subst hv;have HC:=X6 (H.2.1.cells (g:=g) rfl);have HB:=X6 H.2.2.1;have HX:=X6 H.2.2.2;clear H lN;go_wp2_with fail
   go_loop [5] (λiv=>∃q:Nat,q<=11/\iv= .int .i64 q/\Hid (∀(j:Nat) (x:Ln),j<q->(zI s 4)[j]? =some x->x.k=0/\x.n=0)) (λiv=>11-(intOf iv).toNat)
   case atStart=>exact⟨0,by omega,rfl,X6 (λj x h=>by omega)⟩
   case round=>
    obtain⟨q,hq,rfl,HQ⟩:=hrel;by_cases pW:q<11
    ·have d1:decide ((q:Int)<11)=true:=YC (by omega);have hq4:(q:Int)<11:=(by omega);have hl:q<(zI s 4).length:=(by rw[O5];omega);obtain⟨x,hx⟩:∃x,x=(zI s 4)[q]:=⟨_,rfl⟩;have e1:wr.cell? (g,q*2)=some (.int .u8 x.k):=(by have:=HC.out (q*2) (.int .u8 x.k) (by have:=Dk (zI s 4) q 0 hl (by omega);rw[Nat.add_zero]at this;rw[this,hx];rfl);rw[show((⟨g,0,none⟩:Addr).add (q*2))=⟨g,q*2,none⟩from by unfold Addr.add;split<;>simp_all]at this;exact this);have e2:wr.cell? (g,q*2+1)=x.n:=(by have:=HC.out (q*2+1) (.int .i64 x.n) (by rw[Dk (zI s 4) q 1 hl (by omega),hx];rfl);rw[show((⟨g,0,none⟩:Addr).add (q*2+1))=⟨g,q*2+1,none⟩from by unfold Addr.add;split<;>simp_all]at this;exact this);have pV:=X6 (show(zI s 4)[q]? =some x by rw[hx];exact YH hl);clear hx;cases h2:(x.k == 0)
     ·have h2':(x.k != 0)=true:=(by rw[bne,h2];rfl);go_wp2_with fail;go_ret;exact⟨⟨false,rfl,by simp⟩,HB.out⟩
     have h2':(x.k != 0)=false:=(by rw[bne,h2];rfl);cases h3:(x.n == 0)
     ·have h3':(x.n != 0)=true:=(by rw[bne,h3];rfl);go_wp2_with fail;go_ret;exact⟨⟨false,rfl,by simp⟩,HB.out⟩
     have h3':(x.n != 0)=false:=(by rw[bne,h3];rfl);have HZ:=X6 (show x.k=0/\x.n=0 from⟨by simpa using h2,by simpa using h3⟩);go_wp2_with fail
     go_round
     case rel=>exact⟨q+1,by omega,by go_num,X6 (λj y hj e=>by
      by_cases he:j=q
      ·rw[he]at e;rw[pV.out]at e;injection e with e
       rw[<-e];exact HZ.out
      ·exact HQ.out j y (by omega) e)⟩
     case measure=>simp[intOf];omega
    ·have d1:decide ((q:Int)<11)=false:=X9 (by omega);have HZ:=X6 (RX HE.out (λx hx=>by obtain⟨j,hj,e⟩:=List.getElem_of_mem hx;have hj2:j<11:=(by rw[O5]at hj;omega);exact HQ.out j x (by omega) (by rw[<-e];exact YH hj)));have c1:=HX.get _ (sty_a1 s);have c2:=HX.get _ (JK s);have c3:=HX.get _ (Im s);have c32:=HX.get _ (P1 s);have c33:=HX.get _ (PF s);have c34:=HX.get _ (Zh s);have c35:=HX.get _ (Pw s);have c36:=HX.get _ (PR s);have c37:=HX.get _ (OS s);have c38:=HX.get _ (Pe s);have c39:=HX.get _ (OX s);go_wp2_with fail;all_goals (go_ret;exact⟨⟨_,rfl,λ_=>HZ.out⟩,HB.out⟩)
end
section
attribute [local go_sem] lp
theorem GL(W:World)(g:Nat)(s:me)(hb:lq W g 63 (lj s).toArray):W.rangeAt g 0 (lj s):=λj v hv=>by rw[ZX];exact hb.get j (by simpa using hv)
structure StyR(s:me):Prop where
 b:zp s
 lim:∀x,x=s.w\/x=s.mz\/x=s.my\/x=s.m1\/x=s.m3\/x=s.basis->(-1099511627776<=x.n/\x.n<=1099511627776)/\(x.k=2->-100000<=x.n/\x.n<=100000)
 k:s.kind=1\/s.kind=2\/s.kind=3
 gr:s.kind≠3->GrS s
theorem Q8(s:me)(w:World){Au:Option Addr}{nu cu:Nat}(huv:s.uv= .slice Au nu cu): Calls prog 69 #[.agg (lj s).toArray] w λe w'=>CF (StyR s) w w' e:=by
 have vS:Hid (lq (w.alloc (.cells (lj s).toArray 63)) w.heap.size 63 (lj s).toArray):=X6 (lq.new _ _ _);have c0:=vS.get _ (Eh s);have c42:=vS.get _ (IF s);rw[huv]at c42;have HR:=X6 (GL _ _ s vS.out);have HX:=X6 (Zp s (w.alloc (.cells (lj s).toArray 63)) huv);have HE:=X6 (Sw s (w.alloc (.cells (lj s).toArray 63)) huv);have HW:Hid (∀w',Below (w.alloc (.cells (lj s).toArray 63)).heap.size (w.alloc (.cells (lj s).toArray 63)) w'->Below w.heap.size w w'):=X6 (λw' h=>bA.trans (h.mono (by simp)));have HU:=X6 huv;clear huv;obtain⟨k,hk⟩:∃k,k=s.kind:=⟨_,rfl⟩;rw[<-hk]at c0;have HK:=X6 hk;clear hk;by_cases h1:k=1\/k=2
 ·have HH:=X6 h1;rcases h1 with h1 | h1
  ·have e1:(k == 1)=true:=ZR.2 h1;clear h1;go_enter func69,ntmps69;go_wp2_with (refine wpList_load_mid rfl 63 _ rfl w.heap.size 0 rfl (lj s) _ HR.out underlying63 rfl (by kernel_rfl) ?_);refine HX.mono ?_;rintro e w1 ⟨⟨b,rfl,hb⟩,hw⟩;have HB:=X6 hb;have L9:=X6 (HW.out _ hw);clear hb hw;go_wp2_with fail;go_ret;exact⟨⟨b,rfl,λh=>⟨(HB.out h).1.b,(HB.out h).1.lim,by have:=HK.out;have:=HH.out;omega,λ_=>(HB.out h).2⟩⟩,L9.out⟩
  ·have e1:(k == 1)=false:=ZO.2 (by omega);have e2:(k == 2)=true:=ZR.2 h1;clear h1;go_enter func69,ntmps69;go_wp2_with (refine wpList_load_mid rfl 63 _ rfl w.heap.size 0 rfl (lj s) _ HR.out underlying63 rfl (by kernel_rfl) ?_);refine HX.mono ?_;rintro e w1 ⟨⟨b,rfl,hb⟩,hw⟩;have HB:=X6 hb;have L9:=X6 (HW.out _ hw);clear hb hw;go_wp2_with fail;go_ret;exact⟨⟨b,rfl,λh=>⟨(HB.out h).1.b,(HB.out h).1.lim,by have:=HK.out;have:=HH.out;omega,λ_=>(HB.out h).2⟩⟩,L9.out⟩
 ·have e1:(k == 1)=false:=ZO.2 (by omega);have e2:(k == 2)=false:=ZO.2 (by omega);by_cases h3:k=3
  ·have e3:(k == 3)=true:=ZR.2 h3;have HH:=X6 h3;clear h1 h3;go_enter func69,ntmps69;go_wp2_with (refine wpList_load_mid rfl 63 _ rfl w.heap.size 0 rfl (lj s) _ HR.out underlying63 rfl (by kernel_rfl) ?_);refine HE.mono ?_;rintro e w1 ⟨⟨b,rfl,hb⟩,hw⟩;have HB:=X6 hb;have L9:=X6 (HW.out _ hw);have cu2:w1.cell? (w.heap.size,42)=some (.slice Au nu cu):=(hw.cell (p:=(w.heap.size,42)) (by simp)).trans c42;clear hb hw c42;cases b
   ·go_wp2_with fail;go_ret;exact⟨⟨false,rfl,by simp⟩,L9.out⟩
   ·go_wp2_with fail;all_goals (go_ret;exact⟨⟨_,rfl,λ_=>⟨(HB.out (by simp)).b,(HB.out (by simp)).lim,by have:=HK.out;have:=HH.out;omega,λh=>absurd (HK.out▸HH.out) h⟩⟩,L9.out⟩)
  ·have e3:(k == 3)=false:=ZO.2 h3;clear h1 h3;go_enter func69,ntmps69;go_wp2_with fail;go_ret;exact⟨⟨false,rfl,by simp⟩,bA⟩
end
end Go.Proofs.YtjhingednpjogaaGreat
