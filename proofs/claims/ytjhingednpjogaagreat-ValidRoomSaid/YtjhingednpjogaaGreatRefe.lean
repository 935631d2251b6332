/- Lemmas for ValidRoom; laid together by a program. -/
import Derived.Test.YtjhingednpjogaaGreatAu
import Derived.Deep.RegionHeld3
import Derived.Deep.DeepCutAuto
import Derived.BigQuiet
import Derived.Deep.QuietTactic
set_option linter.all false
set_option maxHeartbeats 1000000
open Go.RowKit
namespace Go.Proofs.YtjhingednpjogaaGreat
open Go.Proofs.Tryz
section
theorem CN:El prog 53 4 (.bool false) 1 1:=⟨underlying53,by kernel_rfl,rfl,by decide⟩
def oU(l:List Bool):List Value:=l.map Value.bool
theorem sX(l:List Bool)(k:Nat)(i:Int)(hi:i=k)(A:Option Addr)(c:Nat)(w:World)(_hn:l.length<=4611686018427387904)(hr:Reads w w.heap.size 1 A l.length (oU l)): Calls prog 191 #[.slice A l.length c,.int .i64 i] w λe w'=>e= .returned (.int .i64 (dg l k))/\w=w':=by
 subst hi;by_cases lN:k<l.length
 ·obtain⟨ad,u,rfl,qu,hx,hc⟩:=hr.at_ lN;have hu:u= .bool l[k]:=by simpa[oU,lN]using hx.symm
  subst hu;cases hb:l[k]with
  | true=>have hd:dg l k=1:=(by rw[Pr lN,hb];rfl);rw[hb]at hc;have HD:=X6 hd;clear hx hr hd hb;go_enter func191,ntmps191;go_wp2_with fail;go_ret;exact⟨by rw[HD.out];rfl,rfl⟩
  | false=>have hd:dg l k=0:=(by rw[Pr lN,hb];rfl);rw[hb]at hc;have HD:=X6 hd;clear hx hr hd hb;go_enter func191,ntmps191;go_wp2_with fail;go_ret;exact⟨by rw[HD.out];rfl,rfl⟩
 ·have hd:dg l k=0:=Vf (by omega);have HD:=X6 hd;clear hr hd;go_enter func191,ntmps191;go_wp2_with fail;go_ret;exact⟨by rw[HD.out];rfl,rfl⟩
theorem zS(a b:List Bool)(A B:Option Addr)(c d:Nat)(w:World)(hna:a.length<=4611686018427387904)(hnb:b.length<=4611686018427387904) (ES:Reads w w.heap.size 1 A a.length (oU a)) (Bj:Reads w w.heap.size 1 B b.length (oU b)): Calls prog 190 #[.slice A a.length c,.slice B b.length d] w λe w'=>e= .returned (.bool (decide (val a<val b)))/\w=w':=by
 have Gf:=X6 ES;have Dc:=X6 Bj;clear ES Bj;have LK:∀m,a.length<=m->b.length<=m->val (a.drop m)=val (b.drop m):=λm h1 h2=>by rw[sF _ _ h1,sF _ _ h2]
 have HE:=X6 LK;clear LK;by_cases hm:a.length<b.length;all_goals
  go_enter func190,ntmps190;go_wp2_with fail
  go_loop [5] (λi=>∃k:Nat,k<=4611686018427387904/\i= .int .i64 ((k:Int)-1)/\val (a.drop k)=val (b.drop k)) (λi=>(intOf i+1).toNat)
  case atStart=>exact⟨_,by omega,rfl,HE.out _ (by omega) (by omega)⟩
  case round=>
   obtain⟨k,hk,rfl,hd⟩:=hrel;have HD:=X6 hd;clear hd;rcases k with _ | k
   ·go_wp2_with fail;go_ret;have:=HD.out;exact⟨by simp only[ZE]at this;simp[this],rfl⟩
   ·by_cases he:dg a k=dg b k
    ·have e1:(dg a k != dg b k)=false:=(by simp[he]);have HH:=X6 (Sg HD.out he);clear he;go_wp2_with fail;refine(sX a k _ rfl A c _ hna Gf.out).mono ?_;rintro e w' ⟨rfl,rfl⟩;go_wp2_with fail;refine(sX b k _ rfl B d _ hnb Dc.out).mono ?_;rintro e w' ⟨rfl,rfl⟩;go_wp2_with fail
     go_round
     case rel=>exact⟨k,by omega,by go_num,HH.out⟩
     case measure=>simp[intOf]
    ·have e1:(dg a k != dg b k)=true:=(by simp[he]);have HH:=X6 (less_at a b k HD.out he);clear he;go_wp2_with fail;refine(sX a k _ rfl A c _ hna Gf.out).mono ?_;rintro e w' ⟨rfl,rfl⟩;go_wp2_with fail;refine(sX b k _ rfl B d _ hnb Dc.out).mono ?_;rintro e w' ⟨rfl,rfl⟩;go_wp2_with fail;refine(sX a k _ rfl A c _ hna Gf.out).mono ?_;rintro e w' ⟨rfl,rfl⟩;go_wp2_with fail;refine(sX b k _ rfl B d _ hnb Dc.out).mono ?_;rintro e w' ⟨rfl,rfl⟩;go_wp2_with fail;go_ret;exact⟨by simp[HH.out],rfl⟩
theorem Wi(a b:List Bool)(A B:Option Addr)(c d:Nat)(w:World)(hna:a.length<=1048576)(hnb:b.length<=1048576) (ES:Reads w w.heap.size 1 A a.length (oU a)) (Bj:Reads w w.heap.size 1 B b.length (oU b)): Calls prog 221 #[.slice A a.length c,.slice B b.length d] w λe w'=>∃(l:List Bool) (A':Option Addr) (c':Nat),e= .returned (.slice A' l.length c')/\l.length=max a.length b.length+1/\val l=val a+val b/\ w'.ownsRow w.heap.size 4 1 (.slice A' l.length c') l.length (oU l)/\Below w.heap.size w w':=by
 have Gf:=X6 ES;have Dc:=X6 Bj;clear ES Bj;obtain⟨M,hMa,hMb,hM,hMm⟩:∃M,a.length<=M/\b.length<=M/\M<=1048576/\max a.length b.length=M:=⟨_,by omega,by omega,by omega,rfl⟩;rw[hMm];have XW:=X6 hMm;have hcs:a.length<b.length/\M<=b.length\/¬a.length<b.length/\M<=a.length:=by omega
 clear hMm;rcases hcs with⟨hm,hm'⟩ | ⟨hm,hm'⟩
 all_goals
  go_enter func221,ntmps221;go_wp2_with fail;go_loopw [5,6,7] (λo m i wr=>∃(out:List Bool) (more:Int),out.length<=M+1/\0<=more/\more<=1/\i= .int .i64 out.length/\m= .int .i64 more/\wr.ownsRow w.heap.size 4 1 o out.length (oU out)/\
   val (a.take out.length)+val (b.take out.length)=val out+more*2 ^ out.length/\Below w.heap.size w wr) (λ_ _ i _=>(M+1)-(intOf i).toNat)
  case atStart=>exact⟨[],0,by simp,by omega,by omega,rfl,rfl,YV _ _ _ _,by simp[val],ZN _ _⟩
  case round=>
   obtain⟨out,more,hol,Tm,hm1,rfl,rfl,lV,hv,hw⟩:=hrel;have HV:=X6 hv;clear hv;by_cases lN:out.length<=M
   ·have hda:=vP a out.length;have hdb:=vP b out.length;go_wp2_with fail;refine(sX a out.length _ rfl A c _ (by omega) ((Gf.below hw).more hw.size)).mono ?_;rintro e w' ⟨rfl,rfl⟩;go_wp2_with fail;refine(sX b out.length _ rfl B d _ (by omega) ((Dc.below hw).more hw.size)).mono ?_;rintro e w' ⟨rfl,rfl⟩;have HP:=X6 (Q9 a b out more HV.out _ rfl ⟨Tm,hm1⟩);go_wp2_with (at_builtin;refine lM rfl _ _ rfl CN lV hw.size rfl [_] rfl (by simp) (by simp[Value.oneCell']) (by omega) (by omega) ?_;intro A' c' w' nZ hB hg _);go_roundw;case rel=>exact⟨out++[_],_,by simp;omega,by omega,by omega,by simp,rfl,by simpa[oU]using nZ,by rw[YM];exact HP.out,hB _ _ (X7 _) hw⟩
    case measure=>simp[intOf];omega
   ·have hl:out.length=M+1:=(by omega);have HF:=X6 (UT a b out more HV.out ⟨Tm,hm1⟩ (by rw[XW.out];omega));have HL:=X6 hl;have J1:M<out.length:=(by omega);clear hl lN;obtain⟨Ao,co,rfl⟩:=lZ lV;go_wp2_with fail;go_ret;exact⟨out,_,_,rfl,HL.out,HF.symm,lV,hw⟩
theorem GS(a b:List Bool)(A B:Option Addr)(c d:Nat)(w:World)(hna:a.length<=1048576)(hnb:b.length<=1048576)(qu:val b<=val a) (ES:Reads w w.heap.size 1 A a.length (oU a)) (Bj:Reads w w.heap.size 1 B b.length (oU b)): Calls prog 222 #[.slice A a.length c,.slice B b.length d] w λe w'=>∃(l:List Bool) (A':Option Addr) (c':Nat),e= .returned (.slice A' l.length c')/\l.length=a.length/\val l=val a-val b/\ w'.ownsRow w.heap.size 4 1 (.slice A' l.length c') l.length (oU l)/\Below w.heap.size w w':=by
 have Gf:=X6 ES;have Dc:=X6 Bj;have E5:=X6 qu;clear ES Bj qu;go_enter func222,ntmps222;go_wp2_with fail;go_loopw [5,6,7] (λo m i wr=>∃(out:List Bool) (E7:Int),out.length<=a.length/\0<=E7/\E7<=1/\i= .int .i64 out.length/\m= .int .i64 E7/\wr.ownsRow w.heap.size 4 1 o out.length (oU out)/\
  val (a.take out.length)-val (b.take out.length)=val out-E7*2 ^ out.length/\Below w.heap.size w wr) (λ_ _ i _=>a.length-(intOf i).toNat)
 case atStart=>exact⟨[],0,by simp,by omega,by omega,rfl,rfl,YV _ _ _ _,by simp[val],ZN _ _⟩
 case round=>
  obtain⟨out,E7,hol,Tm,hm1,rfl,rfl,lV,hv,hw⟩:=hrel;have HV:=X6 hv;clear hv;by_cases lN:out.length<a.length
  ·have hda:=vP a out.length;have hdb:=vP b out.length;have HP:=X6 (λs' WN=>Np a b out E7 HV.out ⟨Tm,hm1⟩ (dg a out.length-dg b out.length-E7) s' WN rfl);by_cases hs:dg a out.length-dg b out.length-E7<0;all_goals
    go_wp2_with fail;refine(sX a out.length _ rfl A c _ (by omega) ((Gf.below hw).more hw.size)).mono ?_;rintro e w' ⟨rfl,rfl⟩;go_wp2_with fail;refine(sX b out.length _ rfl B d _ (by omega) ((Dc.below hw).more hw.size)).mono ?_;rintro e w' ⟨rfl,rfl⟩;go_wp2_with (at_builtin;refine lM rfl _ _ rfl CN lV hw.size rfl [_] rfl (by simp) (by simp[Value.oneCell']) (by omega) (by omega) ?_;intro A' c' w' nZ hB hg _);go_roundw;case rel=>exact⟨out++[_],_,by simp;omega,by omega,by omega,by simp,rfl,by simpa[oU]using nZ,by rw[YM];exact HP.out _ _ (by omega),hB _ _ (X7 _) hw⟩
    case measure=>simp[intOf];omega
  ·have hl:out.length=a.length:=(by omega);have HF:=X6 (QZ a b out E7 HV.out ⟨Tm,hm1⟩ hl E5.out);have HL:=X6 hl;clear hl;obtain⟨Ao,co,rfl⟩:=lZ lV;go_wp2_with fail;go_ret;exact⟨out,_,_,rfl,HL.out,HF.symm,lV,hw⟩
def sg(m:Bool)(x:Int):Int:=if m then -x else x
def CL(w:World)(lo:Nat)(v:Value)(K:Nat)(x:Int):Prop:=∃(m:Bool) (A:Option Addr) (c:Nat) (l:List Bool),v= .agg #[.bool m,.slice A l.length c]/\l.length<=c/\l.length<=K/\Reads w w.heap.size 1 A l.length (oU l)/\
 (∀ad,A=some ad->0<l.length->lo<=ad.block)/\sg m (val l)=x
theorem CL.below{w w':World}{lo:Nat}{v:Value}{K:Nat}{x:Int}(h:CL w lo v K x)(hb:Below w.heap.size w w'):CL w' lo v K x:=by obtain⟨m,A,c,l,hv,hc,hk,hr,ho,hx⟩:=h;exact⟨m,A,c,l,hv,hc,hk,(hr.below hb).more hb.size,ho,hx⟩
theorem CL.drew{w:World}{lo:Nat}{v:Value}{K:Nat}{x:Int}(h:CL w lo v K x):CL w.drew lo v K x:=h
theorem CL.more{w:World}{lo lo':Nat}{v:Value}{K K':Nat}{x:Int}(h:CL w lo v K x)(hk:K<=K')(hl:lo'<=lo):CL w lo' v K' x:=by obtain⟨m,A,c,l,hv,hc,SU,hr,ho,hx⟩:=h;exact⟨m,A,c,l,hv,hc,by omega,hr,λad h1 h2=>YL hl (ho ad h1 h2),hx⟩
theorem CL.lA{w:World}{lo:Nat}{v:Value}{K:Nat}{x:Int}(h:CL w lo v K x){p:Addr}(hp:p.block<lo)(u:Value):CL (w.setCell p u) lo v K x:=by
 obtain⟨m,A,c,l,hv,hc,hk,⟨XM,L6⟩,ho,hx⟩:=h;refine⟨m,A,c,l,hv,hc,hk,⟨XM,λhn=>?_⟩,ho,hx⟩;obtain⟨ad,e,hb,oR⟩:=L6 hn;have:=ho ad e hn;refine⟨ad,e,by simpa[World.setCell]using hb,λj u' hu=>?_⟩;rw[Y8 (w:=w)]
 ·exact oR j u' hu
 ·rw[lp];exact ZS _ _ _ _ (by omega)
theorem VD{w:World}{base:Nat}{e:TypeId}{size:Nat}{A:Option Addr}{k c n:Nat}{xs:List Value}(h:w.ownsRow base e size (.slice A k c) n xs):∀ad,A=some ad->base<=ad.block:=by rintro ad rfl;exact(h.lt ad.block rfl).1
theorem MU{l:List Bool}{A:Option Addr}{w:World}(hr:Reads w w.heap.size 1 A l.length (oU l)){k:Nat}(hk:k<=l.length):(l.take k).length=k/\Reads w w.heap.size 1 A k (oU (l.take k)):=by
 refine⟨by simp;omega,by simp[oU];omega,λhn=>?_⟩;obtain⟨ad,e,hb,hcc⟩:=hr.2 (by omega);refine⟨ad,e,hb,λj u hu=>hcc j u ?_⟩;simp only[oU,List.map_take,aBL]at hu⊢
 split at hu
 ·exact hu
 ·cases hu
theorem DZ{l:List Bool}{m:Bool}{k:Nat}(hz:∀j,k<=j->dg l j=0){m':Bool}(hm':(m && decide (0<k))=m'):sg m' (val (l.take k))=sg m (val l):=by
 subst hm';rw[GR l k hz];rcases k with _ | k
 ·have:val l=0:=by rw[<-GR l 0 hz];rfl
  rw[this];unfold sg;simp
 ·simp
def ShortR(e:Ending)(m:Bool)(l:List Bool)(A:Option Addr)(c k:Nat):Prop:=∃m':Bool,e= .returned (.agg #[m',.slice A k c])/\sg m' (val (l.take k))=sg m (val l)
attribute [local go_sem] lp
theorem QK(m:Bool)(l:List Bool)(A:Option Addr)(c:Nat)(w:World)(hn:l.length<=1048576)(hc:l.length<=c)(hr:Reads w w.heap.size 1 A l.length (oU l)): Calls prog 220 #[.agg #[m,.slice A l.length c]] w λe w'=>∃k,k<=l.length/\ShortR e m l A c k/\Below w.heap.size w w':=by
 have HR:=X6 hr;clear hr;go_enter func220,ntmps220;go_wp2_with fail
 go_loop [3] (λi=>∃k:Nat,k<=l.length/\i= .int .i64 k/\∀j,k<=j->dg l j=0) (λi=>(intOf i).toNat)
 case atStart=>exact⟨_,X7 _,rfl,λj hj=>Vf hj⟩
 case round=>
  obtain⟨k,hk,rfl,hz⟩:=hrel;have HZ:=X6 hz;clear hz;rcases k with _ | k
  ·cases m
   all_goals
    go_wp2_with fail;refine ZQ (v:= .agg #[.bool false,.slice A 0 c]) (by simp[results,results220,go_sem]) rfl ⟨_,hk,⟨_,rfl,DZ HZ.out rfl⟩,?_⟩;exact bA.alloc (by simp) _
  ·have lN:k<l.length:=(by omega);obtain⟨ad,u,rfl,qu,hx,oR⟩:=HR.at_ lN;have hu:u= .bool l[k]:=(by simpa[oU,lN]using hx.symm);subst hu;cases hb:l[k]with
   | true=>
    rw[hb]at oR;clear hx hb;cases m;all_goals
     go_wp2_with fail
    ·refine ZQ (v:= .agg #[.bool false,.slice (some ad) (k+1) c]) (by simp[results,results220,go_sem]) rfl ⟨_,hk,⟨_,rfl,DZ HZ.out rfl⟩,?_⟩;exact bA.alloc (by simp) _
    ·refine ZQ (v:= .agg #[.bool true,.slice (some ad) (k+1) c]) (by simp[results,results220,go_sem]) rfl ⟨_,hk,⟨_,rfl,DZ HZ.out (by simp)⟩,?_⟩;exact bA.alloc (by simp) _
   | false=>
    have h0:∀j,k<=j->dg l j=0:=λj hj=>by
     rcases Nat.eq_or_lt_of_le hj with rfl | hj
     ·rw[Pr lN,hb];rfl
     ·exact HZ.out j hj
    have H0:=X6 h0;rw[hb]at oR;clear hx hb h0;go_wp2_with fail
    go_round
    case rel=>exact⟨k,by omega,by go_num,H0.out⟩
    case measure=>simp[intOf]
theorem Bt(m:Bool)(l:List Bool)(A:Option Addr)(c:Nat)(w:World)(hn:l.length<=1048576)(hc:l.length<=c)(hr:Reads w w.heap.size 1 A l.length (oU l)): Calls prog 220 #[.agg #[m,.slice A l.length c]] w λe w'=>∃(m':Bool) (k:Nat),e= .returned (.agg #[m',.slice A k c])/\k<=l.length/\sg m' (val (l.take k))=sg m (val l)/\Below w.heap.size w w':=
 (QK m l A c w hn hc hr).mono λ_ _ ⟨k,hk,⟨m',he,hv⟩,hb⟩=>⟨m',k,he,hk,hv,hb⟩
theorem yC{w w1 w2:World}{base g:Nat}{l:List Bool}{A:Option Addr}{c k K:Nat}{m':Bool}{x:Int}{cs:Array Value}(hcs:cs.size=2)(lV:w1.ownsRow base 4 1 (.slice A l.length c) l.length (oU l))(mr:Below w1.heap.size w1 w2) (hg:lq w2 g 207 cs) (zG:g<base) (hk:k<=l.length) (hK:l.length<=K) (hx:sg m' (val (l.take k))=x) (hw:Below w.heap.size w w2) (hwg:w.heap.size<=g) (W:World) (hW:W=(w2.setCell (g,0) (.bool m')).setCell (g,1) (.slice A k c)): lq W g 207 #[.bool m',.slice A k c]/\CL W base (.agg #[m',.slice A k c]) K x/\Below w.heap.size w W:=by
 subst hW;have ho:=ZT (ZT (lG lV mr) (a:=⟨g,0,none⟩) zG (.bool m')) (a:=⟨g,1,none⟩) zG (.slice A k c);have hc:=oT lV;obtain⟨h1,h2⟩:=MU (Reads.mo ho) hk;refine⟨?_,⟨m',A,c,l.take k,by rw[h1],by omega,by omega,by rw[h1];exact h2,λad h _=>VD lV ad h,hx⟩,(hw.setCell (p:=(g,0)) hwg _).setCell (p:=(g,1)) hwg _⟩;have:=(hg.lA 0 (.bool m')).lA 1 (.slice A k c);obtain⟨cl⟩:=cs
 match cl,hcs with
 | [a,b],_=>exact this
end
section
attribute [local go_sem] lp
def AU(x:Int):Int:=if x<0 then -x else x
theorem aad(x:Int)(h0: -9223372036854775808<=x)(h:x<0):IntKind.u64.wrap (-(IntKind.u64.wrap x))=AU x:=by rw[Df,Df];unfold AU;rw[YP h];omega
theorem sg_abs(x:Int):sg (decide (x<0)) (AU x)=x:=by unfold sg AU;by_cases h:x<0<;>simp[h]
theorem Vn{w wr:World}{l:List Bool}{A:Option Addr}{c:Nat}{x:Int}{m:Bool}(b0:lq wr w.heap.size 207 #[false,lH])(lV:wr.ownsRow (w.heap.size+2) 4 1 (.slice A l.length c) l.length (oU l))(hl:l.length<=64)(hw:Below w.heap.size w wr) (hm:decide (x<0)=m) (hv:val l+0*2 ^ l.length=AU x) (W:World) (hW:W=(wr.setCell (w.heap.size,0) (.bool m)).setCell (w.heap.size,1) (.slice A l.length c)): lq W w.heap.size 207 #[.bool m,.slice A l.length c]/\CL W (w.heap.size+2) (.agg #[m,.slice A l.length c]) 64 x/\Below w.heap.size w W:=by
 subst hW;have ho:=ZT (ZT lV (a:=⟨w.heap.size,0,none⟩) (by simp) (.bool m)) (a:=⟨w.heap.size,1,none⟩) (by simp) (.slice A l.length c);refine⟨(b0.lA 0 _).lA 1 _,⟨m,A,c,l,rfl,?_,hl,Reads.mo ho,λad h _=>VD lV ad h,?_⟩,(hw.setCell (p:=(w.heap.size,0)) (X7 _) _).setCell (p:=(w.heap.size,1)) (X7 _) _⟩
 ·rcases lV.2 with⟨h,h'⟩ | ⟨g,cap,cur,h,_,_,h',_⟩
  ·omega
  ·injection h with _ _ h;omega
 ·have:val l=AU x:=by omega
  rw[this,<-hm,sg_abs]
theorem MT(x:Int)(w:World)(h0: -9223372036854775808<=x)(h1:x<9223372036854775808): Calls prog 125 #[.int .i64 x] w λe w'=>∃v,e= .returned v/\CL w' w.heap.size v 64 x/\Below w.heap.size w w':=by
 have hneg:=aad x h0;have ha:AU x<=9223372036854775808:=by unfold AU;split<;>omega
 have ha':0<=AU x:=by unfold AU;split<;>omega
 by_cases hx:x<0
 ·have H2:=X6 (hneg hx);clear hneg h1;go_enter func125,ntmps125;go_wp2_with fail;rw[H2.out];go_loopw [3] (λy wr=>∃(q:Int) (l:List Bool) (v:Value),y= .int .u64 q/\0<=q/\q<=9223372036854775808/\l.length<=64/\lq wr w.heap.size 207 #[false,lH]/\lq wr (w.heap.size+1) 207 #[true,v]/\
   wr.ownsRow (w.heap.size+2) 4 1 v l.length (oU l)/\val l+q*2 ^ l.length=AU x/\Below w.heap.size w wr) (λy _=>(intOf y).toNat)
  case atStart=>exact⟨_,[],_,rfl,ha',ha,by simp,(lq.new _ _ _).alloc _,lq.at_ _ _ _ (by simp),YV _ _ _ _,by simp[val],bA.alloc (by simp) _⟩
  case round=>
   obtain⟨q,l,v,rfl,hq,hq1,hl,b0,b1,lV,hv,hw⟩:=hrel;have HV:=X6 hv;clear hv;obtain⟨c0,c1⟩:=b1.c2;have tH:=b1.lt;rcases Int.lt_or_le 0 q with hq0 | hq0
   ·have hl63:=UC l q _ HV.out hq0 ha;have HP:=X6 (O4 l q _ HV.out hq);go_wp2_with (at_builtin;refine lM rfl _ _ rfl CN lV tH rfl [_] rfl (by simp) (by simp[Value.oneCell']) (by omega) (by omega) ?_;intro A' c' w' nZ hB hg _;have b0':=b0.grown hg (pg lV (by omega));have b1':=b1.grown hg (pg lV (by omega));obtain⟨_,c1'⟩:=b1'.c2;have f1':=b1'.frozen 1);go_roundw;case rel=>exact⟨_,l++[_],_,rfl,by omega,by omega,by simp;omega,b0'.lQ (by simp) _,b1'.lA 1 _,by simpa[oU]using ZT nZ (a:=⟨w.heap.size+1,1,none⟩) (by simp) _,by rw[YM];exact HP.out,(hB _ _ (by omega) hw).setCell (p:=(w.heap.size+1,1)) (by simp) _⟩
    case measure=>simp[intOf];omega
   ·obtain rfl:q=0:=(by omega);obtain⟨A,c,rfl⟩:=lZ lV;obtain⟨hd,hd1⟩:=b0.c2;have hf:=b0.frozen;go_wp2_with fail;obtain⟨bF,xQ,hB⟩:=Vn b0 lV hl hw (m:=true) (by simp;omega) HV.out _ rfl;obtain⟨r0,r1⟩:=bF.c2;exact ZQ (v:= .agg #[.bool true,.slice A l.length c]) (by simp[results,results125,go_sem,r0,r1]) rfl ⟨_,rfl,xQ.more (X7 _) (by omega),hB⟩
 ·have HA:Hid (AU x=x):=by unfold AU;exact X6 (YO hx)
  clear hneg;go_enter func125,ntmps125;go_wp2_with fail;go_loopw [3] (λy wr=>∃(q:Int) (l:List Bool) (v:Value),y= .int .u64 q/\0<=q/\q<=9223372036854775808/\l.length<=64/\lq wr w.heap.size 207 #[false,lH]/\lq wr (w.heap.size+1) 207 #[false,v]/\
   wr.ownsRow (w.heap.size+2) 4 1 v l.length (oU l)/\val l+q*2 ^ l.length=AU x/\Below w.heap.size w wr) (λy _=>(intOf y).toNat)
  case atStart=>exact⟨x,[],_,rfl,by omega,by omega,by simp,(lq.new _ _ _).alloc _,lq.at_ _ _ _ (by simp),YV _ _ _ _,by simp[val,HA.out],bA.alloc (by simp) _⟩
  case round=>
   obtain⟨q,l,v,rfl,hq,hq1,hl,b0,b1,lV,hv,hw⟩:=hrel;have HV:=X6 hv;clear hv;obtain⟨c0,c1⟩:=b1.c2;have tH:=b1.lt;rcases Int.lt_or_le 0 q with hq0 | hq0
   ·have hl63:=UC l q _ HV.out hq0 ha;have HP:=X6 (O4 l q _ HV.out hq);go_wp2_with (at_builtin;refine lM rfl _ _ rfl CN lV tH rfl [_] rfl (by simp) (by simp[Value.oneCell']) (by omega) (by omega) ?_;intro A' c' w' nZ hB hg _;have b0':=b0.grown hg (pg lV (by omega));have b1':=b1.grown hg (pg lV (by omega));obtain⟨_,c1'⟩:=b1'.c2;have f1':=b1'.frozen 1);go_roundw;case rel=>exact⟨_,l++[_],_,rfl,by omega,by omega,by simp;omega,b0'.lQ (by simp) _,b1'.lA 1 _,by simpa[oU]using ZT nZ (a:=⟨w.heap.size+1,1,none⟩) (by simp) _,by rw[YM];exact HP.out,(hB _ _ (by omega) hw).setCell (p:=(w.heap.size+1,1)) (by simp) _⟩
    case measure=>simp[intOf];omega
   ·obtain rfl:q=0:=(by omega);obtain⟨A,c,rfl⟩:=lZ lV;obtain⟨hd,hd1⟩:=b0.c2;have hf:=b0.frozen;go_wp2_with fail;obtain⟨bF,xQ,hB⟩:=Vn b0 lV hl hw (m:=false) (by simp;omega) HV.out _ rfl;obtain⟨r0,r1⟩:=bF.c2;exact ZQ (v:= .agg #[.bool false,.slice A l.length c]) (by simp[results,results125,go_sem,r0,r1]) rfl ⟨_,rfl,xQ.more (X7 _) (by omega),hB⟩
end
section
attribute [local go_sem] lp
theorem add_any(v1 v2:Value)(K1 K2:Nat)(x y:Int)(w:World)(hK1:K1<=1048575)(hK2:K2<=1048575)(lo1 lo2:Nat)(h1:CL w lo1 v1 K1 x)(h2:CL w lo2 v2 K2 y): Calls prog 192 #[v1,v2] w λe w'=>∃v,e= .returned v/\CL w' w.heap.size v (max K1 K2+1) (x+y)/\Below w.heap.size w w':=by
 obtain⟨m,A,c,a,rfl,hac,hak,ES,_,rfl⟩:=h1;obtain⟨m',B,d,b,rfl,hbd,Xi,Bj,_,rfl⟩:=h2;rcases(show m=m'/\True\/(m= !m')/\decide (val a<val b)=true\/(m'= !m)/\decide (val a<val b)=false by cases m<;>cases m'<;>simp<;>omega)with⟨hm,_⟩ | ⟨hm,lN⟩ | ⟨hm,lN⟩
 ·subst hm;have HM:(m == m)=true:=by simp
  go_enter func192,ntmps192;go_wp2_with fail;generalize hW:World.alloc (World.alloc (World.alloc w _) _) _=W;have b0:lq W w.heap.size 207 #[m,.slice A a.length c]:=by rw[<-hW];exact((lq.new _ _ _).alloc _).alloc _
  have b1:lq W (w.heap.size+1) 207 #[m,.slice B b.length d]:=by rw[<-hW];exact(lq.at_ _ _ _ (by simp)).alloc _
  have b2:lq W (w.heap.size+1+1) 207 #[false,lH]:=by rw[<-hW];exact lq.at_ _ _ _ (by simp)
  have hw:Below w.heap.size w W:=by rw[<-hW];exact(bA.alloc (by simp) _).alloc (by simp;omega) _
  clear hW;obtain⟨c0,c1⟩:=b0.c2;obtain⟨d0,d1⟩:=b1.c2;have hz:=b2.lt;have z0:w.heap.size<W.heap.size:=by omega
  have z1:w.heap.size+1<W.heap.size:=by omega
  have k0:W.drew.cell? (w.heap.size,0)=m/\W.drew.cell? (w.heap.size,1)=some (.slice A a.length c)/\W.drew.cell? (w.heap.size+1,1)=some (.slice B b.length d):=⟨c0,c1,d1⟩;go_region_held3 (λw'=>w'.cell? (w.heap.size,0)=m/\w'.cell? (w.heap.size,1)=some (.slice A a.length c)/\w'.cell? (w.heap.size+1,1)=some (.slice B b.length d)) (first | (with_reducible exact k0) | (with_reducible exact kp) | (with_reducible exact PC) | exact⟨(YX _ _ _ _ (by intro e;injection e;omega)).trans ((YX _ _ _ _ (by intro e;injection e;omega)).trans PC.1),(YX _ _ _ _ (by intro e;injection e;omega)).trans ((YX _ _ _ _ (by intro e;injection e;omega)).trans PC.2.1),(YX _ _ _ _ (by intro e;injection e;omega)).trans ((YX _ _ _ _ (by intro e;injection e;omega)).trans PC.2.2)⟩)
   (first
    | (go_at_call 221;refine(Wi a b A B c d _ (by omega) (by omega) (by exact((ES.below hw).more hw.size).drew) (by exact((Bj.below hw).more hw.size).drew)).mono ?_;rintro e w1 ⟨l,A',c',rfl,hl,hv,lV,hb⟩;have J1:=aC9 hl;have HV:=X6 hv;clear hl hv;have kp:w1.cell? ⟨w.heap.size,0,none⟩=some (.bool m)/\w1.cell? ⟨w.heap.size,1,none⟩=some (.slice A a.length c)/\w1.cell? ⟨w.heap.size+1,1,none⟩=some (.slice B b.length d):=⟨(hb.cell (p:=⟨_,0,none⟩) z0).trans c0,(hb.cell (p:=⟨_,1,none⟩) z0).trans c1,(hb.cell (p:=⟨_,1,none⟩) z1).trans d1⟩)
    | (go_at_call 220;refine(Bt m l A' c' _ (by omega) (oT lV) (Reads.mo lV)).mono ?_;rintro e w2 ⟨m2,k,rfl,hk,E4,mr⟩;have uE:=hb.trans (mr.mono hb.size);have qH:=X6 E4;clear E4;have PC:w2.cell? ⟨w.heap.size,0,none⟩=some (.bool m)/\w2.cell? ⟨w.heap.size,1,none⟩=some (.slice A a.length c)/\w2.cell? ⟨w.heap.size+1,1,none⟩=some (.slice B b.length d):=⟨(uE.cell (p:=⟨_,0,none⟩) z0).trans c0,(uE.cell (p:=⟨_,1,none⟩) z0).trans c1,(uE.cell (p:=⟨_,1,none⟩) z1).trans d1⟩;have Ov:=b2.drew.below uE hz;obtain⟨e0,e1⟩:=Ov.c2;have ef:=Ov.frozen))
  go_wp2_with fail;obtain⟨bF,xQ,hB⟩:=yC (K:=max K1 K2+1) rfl lV mr Ov hz hk (by omega) qH.out (hw.drew.trans (uE.mono hw.size)) (by omega) _ rfl;obtain⟨r0,r1⟩:=bF.c2;refine ZQ (v:= .agg #[.bool m2,.slice A' k c']) (by simp[results,results192,go_sem,r0,r1]) rfl ⟨_,rfl,?_,hB⟩;have hE:sg m (val l)=sg m (val a)+sg m (val b):=by rw[HV.out];unfold sg;split<;>omega
  rw[<-hE];exact xQ.more (X7 _) hw.size
 ·subst hm;have HM:((!m') == m')=false:=by cases m'<;>rfl
  go_enter func192,ntmps192;go_wp2_with fail;generalize hW:World.alloc (World.alloc (World.alloc w _) _) _=W;have b0:lq W w.heap.size 207 #[.bool (!m'),.slice A a.length c]:=by rw[<-hW];exact((lq.new _ _ _).alloc _).alloc _
  have b1:lq W (w.heap.size+1) 207 #[m',.slice B b.length d]:=by rw[<-hW];exact(lq.at_ _ _ _ (by simp)).alloc _
  have b2:lq W (w.heap.size+1+1) 207 #[false,lH]:=by rw[<-hW];exact lq.at_ _ _ _ (by simp)
  have hw:Below w.heap.size w W:=by rw[<-hW];exact(bA.alloc (by simp) _).alloc (by simp;omega) _
  clear hW;obtain⟨c0,c1⟩:=b0.c2;obtain⟨d0,d1⟩:=b1.c2;have hz:=b2.lt;have z0:w.heap.size<W.heap.size:=by omega
  have z1:w.heap.size+1<W.heap.size:=by omega
  go_wp2_with fail;refine(zS a b A B c d _ (by omega) (by omega) ((ES.below hw).more hw.size) ((Bj.below hw).more hw.size)).mono ?_;rintro e w' ⟨rfl,rfl⟩;go_wp2_with fail;have k0:W.drew.cell? (w.heap.size+1,0)=m'/\W.drew.cell? (w.heap.size,1)=some (.slice A a.length c)/\W.drew.cell? (w.heap.size+1,1)=some (.slice B b.length d):=⟨d0,c1,d1⟩;go_region_held3 (λw'=>w'.cell? (w.heap.size+1,0)=m'/\w'.cell? (w.heap.size,1)=some (.slice A a.length c)/\w'.cell? (w.heap.size+1,1)=some (.slice B b.length d)) (first | (with_reducible exact k0) | (with_reducible exact kp) | (with_reducible exact PC) | exact⟨(YX _ _ _ _ (by intro e;injection e;omega)).trans ((YX _ _ _ _ (by intro e;injection e;omega)).trans PC.1),(YX _ _ _ _ (by intro e;injection e;omega)).trans ((YX _ _ _ _ (by intro e;injection e;omega)).trans PC.2.1),(YX _ _ _ _ (by intro e;injection e;omega)).trans ((YX _ _ _ _ (by intro e;injection e;omega)).trans PC.2.2)⟩)
   (first
    | (go_at_call 222;refine(GS b a B A d c _ (by omega) (by omega) (aDB (YZ lN)) (by exact((Bj.below hw).more hw.size).drew) (by exact((ES.below hw).more hw.size).drew)).mono ?_;rintro e w1 ⟨l,A',c',rfl,hl,hv,lV,hb⟩;have J1:=aC9 hl;have HV:=X6 hv;clear hl hv;have kp:w1.cell? ⟨w.heap.size+1,0,none⟩=some (.bool m')/\w1.cell? ⟨w.heap.size,1,none⟩=some (.slice A a.length c)/\w1.cell? ⟨w.heap.size+1,1,none⟩=some (.slice B b.length d):=⟨(hb.cell (p:=⟨_,0,none⟩) z1).trans d0,(hb.cell (p:=⟨_,1,none⟩) z0).trans c1,(hb.cell (p:=⟨_,1,none⟩) z1).trans d1⟩)
    | (go_at_call 220;refine(Bt m' l A' c' _ (by omega) (oT lV) (Reads.mo lV)).mono ?_;rintro e w2 ⟨m2,k,rfl,hk,E4,mr⟩;have uE:=hb.trans (mr.mono hb.size);have qH:=X6 E4;clear E4;have PC:w2.cell? ⟨w.heap.size+1,0,none⟩=some (.bool m')/\w2.cell? ⟨w.heap.size,1,none⟩=some (.slice A a.length c)/\w2.cell? ⟨w.heap.size+1,1,none⟩=some (.slice B b.length d):=⟨(uE.cell (p:=⟨_,0,none⟩) z1).trans d0,(uE.cell (p:=⟨_,1,none⟩) z0).trans c1,(uE.cell (p:=⟨_,1,none⟩) z1).trans d1⟩;have Ov:=b2.drew.below uE hz;obtain⟨e0,e1⟩:=Ov.c2;have ef:=Ov.frozen))
  go_wp2_with fail;obtain⟨bF,xQ,hB⟩:=yC (K:=max K1 K2+1) rfl lV mr Ov hz hk (by omega) qH.out (hw.drew.trans (uE.mono hw.size)) (by omega) _ rfl;obtain⟨r0,r1⟩:=bF.c2;refine ZQ (v:= .agg #[.bool m2,.slice A' k c']) (by simp[results,results192,go_sem,r0,r1]) rfl ⟨_,rfl,?_,hB⟩;have hE:sg m' (val l)=sg (!m') (val a)+sg m' (val b):=by rw[HV.out];unfold sg;cases m'<;>simp<;>omega
  rw[<-hE];exact xQ.more (X7 _) hw.size
 ·subst hm;have HM:(m == !m)=false:=by cases m<;>rfl
  go_enter func192,ntmps192;go_wp2_with fail;generalize hW:World.alloc (World.alloc (World.alloc w _) _) _=W;have b0:lq W w.heap.size 207 #[m,.slice A a.length c]:=by rw[<-hW];exact((lq.new _ _ _).alloc _).alloc _
  have b1:lq W (w.heap.size+1) 207 #[.bool (!m),.slice B b.length d]:=by rw[<-hW];exact(lq.at_ _ _ _ (by simp)).alloc _
  have b2:lq W (w.heap.size+1+1) 207 #[false,lH]:=by rw[<-hW];exact lq.at_ _ _ _ (by simp)
  have hw:Below w.heap.size w W:=by rw[<-hW];exact(bA.alloc (by simp) _).alloc (by simp;omega) _
  clear hW;obtain⟨c0,c1⟩:=b0.c2;obtain⟨d0,d1⟩:=b1.c2;have hz:=b2.lt;have z0:w.heap.size<W.heap.size:=by omega
  have z1:w.heap.size+1<W.heap.size:=by omega
  go_wp2_with fail;refine(zS a b A B c d _ (by omega) (by omega) ((ES.below hw).more hw.size) ((Bj.below hw).more hw.size)).mono ?_;rintro e w' ⟨rfl,rfl⟩;go_wp2_with fail;have k0:W.drew.cell? (w.heap.size,0)=m/\W.drew.cell? (w.heap.size,1)=some (.slice A a.length c)/\W.drew.cell? (w.heap.size+1,1)=some (.slice B b.length d):=⟨c0,c1,d1⟩;go_region_held3 (λw'=>w'.cell? (w.heap.size,0)=m/\w'.cell? (w.heap.size,1)=some (.slice A a.length c)/\w'.cell? (w.heap.size+1,1)=some (.slice B b.length d)) (first | (with_reducible exact k0) | (with_reducible exact kp) | (with_reducible exact PC) | exact⟨(YX _ _ _ _ (by intro e;injection e;omega)).trans ((YX _ _ _ _ (by intro e;injection e;omega)).trans PC.1),(YX _ _ _ _ (by intro e;injection e;omega)).trans ((YX _ _ _ _ (by intro e;injection e;omega)).trans PC.2.1),(YX _ _ _ _ (by intro e;injection e;omega)).trans ((YX _ _ _ _ (by intro e;injection e;omega)).trans PC.2.2)⟩)
   (first
    | (go_at_call 222;refine(GS a b A B c d _ (by omega) (by omega) (Int.not_lt.1 (YS lN)) (by exact((ES.below hw).more hw.size).drew) (by exact((Bj.below hw).more hw.size).drew)).mono ?_;rintro e w1 ⟨l,A',c',rfl,hl,hv,lV,hb⟩;have J1:=aC9 hl;have HV:=X6 hv;clear hl hv;have kp:w1.cell? ⟨w.heap.size,0,none⟩=some (.bool m)/\w1.cell? ⟨w.heap.size,1,none⟩=some (.slice A a.length c)/\w1.cell? ⟨w.heap.size+1,1,none⟩=some (.slice B b.length d):=⟨(hb.cell (p:=⟨_,0,none⟩) z0).trans c0,(hb.cell (p:=⟨_,1,none⟩) z0).trans c1,(hb.cell (p:=⟨_,1,none⟩) z1).trans d1⟩)
    | (go_at_call 220;refine(Bt m l A' c' _ (by omega) (oT lV) (Reads.mo lV)).mono ?_;rintro e w2 ⟨m2,k,rfl,hk,E4,mr⟩;have uE:=hb.trans (mr.mono hb.size);have qH:=X6 E4;clear E4;have PC:w2.cell? ⟨w.heap.size,0,none⟩=some (.bool m)/\w2.cell? ⟨w.heap.size,1,none⟩=some (.slice A a.length c)/\w2.cell? ⟨w.heap.size+1,1,none⟩=some (.slice B b.length d):=⟨(uE.cell (p:=⟨_,0,none⟩) z0).trans c0,(uE.cell (p:=⟨_,1,none⟩) z0).trans c1,(uE.cell (p:=⟨_,1,none⟩) z1).trans d1⟩;have Ov:=b2.drew.below uE hz;obtain⟨e0,e1⟩:=Ov.c2;have ef:=Ov.frozen))
  go_wp2_with fail;obtain⟨bF,xQ,hB⟩:=yC (K:=max K1 K2+1) rfl lV mr Ov hz hk (by omega) qH.out (hw.drew.trans (uE.mono hw.size)) (by omega) _ rfl;obtain⟨r0,r1⟩:=bF.c2;refine ZQ (v:= .agg #[.bool m2,.slice A' k c']) (by simp[results,results192,go_sem,r0,r1]) rfl ⟨_,rfl,?_,hB⟩;have hE:sg m (val l)=sg m (val a)+sg (!m) (val b):=by rw[HV.out];unfold sg;cases m<;>simp<;>omega
  rw[<-hE];exact xQ.more (X7 _) hw.size
end
section
attribute [local go_sem] lp
theorem UL(x:Int)(w:World)(h0: -9223372036854775808<=x)(h1:x<9223372036854775808): Calls prog 125 #[.int .i64 x] w λe w'=>∃(m:Bool) (A:Option Addr) (c:Nat) (l:List Bool),e= .returned (.agg #[m,.slice A l.length c])/\Below w.heap.size w w'/\l.length<=c/\l.length<=64/\Reads w' w'.heap.size 1 A l.length (oU l)/\sg m (val l)=x:=
 (MT x w h0 h1).mono λ_ _ ⟨_,he,⟨m,A,c,l,hv,h1,h2,h3,h5,h4⟩,hb⟩=>⟨m,A,c,l,by rw[he,hv],hb,h1,h2,h3,h4⟩
theorem aah(v1 v2:Value)(K1 K2:Nat)(x y:Int)(w:World)(hK1:K1<=1048575)(hK2:K2<=1048575)(lo1 lo2:Nat)(h1:CL w lo1 v1 K1 x)(h2:CL w lo2 v2 K2 y): Calls prog 192 #[v1,v2] w λe w'=>∃(m:Bool) (A:Option Addr) (c:Nat) (l:List Bool),e= .returned (.agg #[m,.slice A l.length c])/\Below w.heap.size w w'/\CL w' w.heap.size (.agg #[m,.slice A l.length c]) (max K1 K2+1) (x+y):=
 (add_any v1 v2 K1 K2 x y w hK1 hK2 lo1 lo2 h1 h2).mono λ_ _ ⟨_,he,⟨m,A,c,l,hv,h1,h2,h3,h5,h4⟩,hb⟩=>⟨m,A,c,l,by rw[he,hv],hb,m,A,c,l,rfl,h1,h2,h3,h5,h4⟩
theorem fld_L(m:Bool)(A:Option Addr)(n c:Nat)(w:World):(Instr.field 207 (.agg #[m,.slice A n c]) 1).run prog w= .ok (.slice A n c) w:=by kernel_rfl
attribute [local go_sem] fld_L
theorem DE{m:Bool}{l:List Bool}(h:sg m (val l)=1099511627776):val l=1099511627776:=by have:=tn l;unfold sg at h;split at h<;>omega
theorem VU{l:List Bool}{k:Nat}{n:Int}(hn:n=val (l.drop (k+1))):2*n+dg l k=val (l.drop k):=by subst hn;rw[sW l k];omega
theorem aaD(l:List Bool)(k:Nat):val (l.drop k)<=val l:=by have h:=uL l k;have h1:=wP l k;have h2:=tn (l.drop k);have h3:=uX k;have:=aCJ (show 1<=(2:Int) ^ k by omega) h2;omega
theorem Kq(v:Value)(K:Nat)(x:Int)(w:World)(hK:K<=1048576)(lo:Nat)(h:CL w lo v K x): Calls prog 124 #[v] w λe w'=>e= .returned (.tuple #[(lU x),.bool (mG x)])/\Below w.heap.size w w':=by
 obtain⟨m,A,c,l,rfl,hc,hk,hr,_,rfl⟩:=h;go_enter func124,ntmps124;go_wp2_with fail;generalize hW:World.alloc w _=W;have b0:lq W w.heap.size 207 #[m,.slice A l.length c]:=by rw[<-hW];exact lq.new _ _ _
 have hw:Below w.heap.size w W:=by rw[<-hW];exact bA
 clear hW;obtain⟨c0,c1⟩:=b0.c2;have hz:=b0.lt;have k0:W.drew.cell? (w.heap.size,1)=some (.slice A l.length c):=c1;have xG:=tn l;by_cases hb:1099511627776<val l
 ·go_region_held3 (λw'=>w'.cell? (w.heap.size,1)=some (.slice A l.length c)) (first | (with_reducible exact k0) | (with_reducible exact k1))
   (first
    | (go_at_call 125;refine(UL 1099511627776 _ (by omega) (by omega)).mono ?_;rintro e w1 ⟨m1,A1,d1,l1,rfl,nY,XH,Kn,XM,Am⟩;have HX:=X6 (DE Am);clear Am;have k1:w1.cell? ⟨w.heap.size,1,none⟩=some (.slice A l.length c):=(nY.cell (p:=⟨_,1,none⟩) hz).trans c1)
    | (go_at_call 190;refine(zS l1 l A1 A d1 c _ (by omega) (by omega) XM (by exact(hr.below (hw.drew.trans (nY.mono hw.size))).more (YL hw.size nY.size))).mono ?_;rintro e w2 ⟨rfl,rfl⟩))
  have hd:val l1<val l:=by rw[HX.out];exact hb
  have k2:w1.cell? (w.heap.size,0)=m:=(nY.cell (p:=⟨_,0,none⟩) hz).trans c0;have mW:=hw.drew.trans (nY.mono hw.size);cases m
  ·have hF:lU (sg false (val l))=1099511627776/\mG (sg false (val l))=true:=(by unfold lU mG sg;constructor<;>simp<;>omega);have HF:=X6 hF;clear hF;go_wp2_with fail;go_ret2;exact⟨by rw[HF.1,HF.2];rfl,mW⟩
  ·have hF:lU (sg true (val l))= -1099511627776/\mG (sg true (val l))=true:=(by unfold lU mG sg;constructor<;>simp<;>omega);have HF:=X6 hF;clear hF;go_wp2_with fail;go_ret2;exact⟨by rw[HF.1,HF.2];rfl,mW⟩
 ·go_region_held3 (λw'=>w'.cell? (w.heap.size,1)=some (.slice A l.length c)) (first | (with_reducible exact k0) | (with_reducible exact k1))
   (first
    | (go_at_call 125;refine(UL 1099511627776 _ (by omega) (by omega)).mono ?_;rintro e w1 ⟨m1,A1,d1,l1,rfl,nY,XH,Kn,XM,Am⟩;have HX:=X6 (DE Am);clear Am;have k1:w1.cell? ⟨w.heap.size,1,none⟩=some (.slice A l.length c):=(nY.cell (p:=⟨_,1,none⟩) hz).trans c1)
    | (go_at_call 190;refine(zS l1 l A1 A d1 c _ (by omega) (by omega) XM (by exact(hr.below (hw.drew.trans (nY.mono hw.size))).more (YL hw.size nY.size))).mono ?_;rintro e w2 ⟨rfl,rfl⟩))
  have hd:val l<=val l1:=by rw[HX.out];omega
  have k2:w1.cell? (w.heap.size,0)=m:=(nY.cell (p:=⟨_,0,none⟩) hz).trans c0;have mW:=hw.drew.trans (nY.mono hw.size);have hrw:=(hr.below mW).more mW.size;go_wp2_with fail
  go_loop [4,5] (λn i=>∃k:Nat,k<=l.length/\i= .int .i64 ((k:Int)-1)/\n= .int .i64 (val (l.drop k))) (λ_ i=>(intOf i+1).toNat)
  case atStart=>exact⟨_,X7 _,rfl,by rw[sF _ _ (X7 _)]⟩
  case round=>
   obtain⟨k,nF,rfl,rfl⟩:=hrel;rcases k with _ | k
   ·have h0:=tn l;rw[ZE];cases m
    ·have hF:lU (sg false (val l))=val l/\mG (sg false (val l))=false:=(by unfold lU mG sg;constructor<;>simp<;>omega);have HF:=X6 hF;clear hF;go_wp2_with fail;go_ret2;exact⟨by rw[HF.1,HF.2];rfl,mW⟩
    ·have hF:lU (sg true (val l))= -val l/\mG (sg true (val l))=false:=(by unfold lU mG sg;constructor<;>simp<;>omega);have HF:=X6 hF;clear hF;go_wp2_with fail;go_ret2;exact⟨by rw[HF.1,HF.2];rfl,mW⟩
   ·have Gg:=tn (l.drop (k+1));have Oy:=aaD l (k+1);have hn2:=vP l k;have HS:=X6 (VU (l:=l) (k:=k) rfl);go_wp2_with fail;refine(sX l k _ rfl A c _ (by omega) hrw).mono ?_;rintro e w' ⟨rfl,rfl⟩;go_wp2_with fail
    go_round
    case rel=>exact⟨k,by omega,by go_num,by rw[HS.out]⟩
    case measure=>simp[intOf]
end
section
attribute [local go_sem] lp
theorem Qc{l:List Int}{k:Nat}(hk:k<l.length):(l.take k).sum+l[k]=(l.take (k+1)).sum:=(yq l k hk).symm
theorem ti(l:List Int)(A:Option Addr)(c:Nat)(w:World)(hl:rM l)(hn:l.length<=1048000)(hr:Reads w w.heap.size 1 A l.length (lY l)): Calls prog 127 #[.slice A l.length c] w λe w'=>e= .returned (.tuple #[(lU l.sum),.bool (mG l.sum)])/\Below w.heap.size w w':=by
 go_enter func127,ntmps127;go_wp2_with fail;go_loopw [5] (λi wr=>∃(k:Nat) (m:Bool) (B:Option Addr) (d:Nat) (b:List Bool),k<=l.length/\i= .int .i64 k/\lq wr w.heap.size 207 #[m,.slice B b.length d]/\CL wr (w.heap.size+1) (.agg #[m,.slice B b.length d]) (65+k) (l.take k).sum/\Below w.heap.size w wr)
  (λi _=>l.length-(intOf i).toNat)
 case atStart=>exact⟨0,false,none,0,[],by omega,rfl,lq.new _ _ _,⟨false,none,0,[],rfl,by simp,by simp,Reads.none_,by simp,by simp[sg,val]⟩,bA⟩
 case round=>
  obtain⟨k,m,B,d,b,hk,rfl,b0,xQ,hw⟩:=hrel;obtain⟨c0,c1⟩:=b0.c2;have hz:=b0.lt;by_cases lN:k<l.length
  ·obtain⟨ad,u,rfl,qu,hx,oR⟩:=(hr.below hw).at_ lN;have hu:u= .int .i64 l[k]:=(by simpa[lY,lN]using hx.symm);subst hu;have wC:=hl.at_ lN;have HS:=X6 (Qc lN);clear hx hr;go_wp2_with fail
   go_region_with (first
    | (go_at_call 125;refine(MT l[k] _ wC.1 wC.2).mono ?_;rintro e w1 ⟨v1,rfl,hbig1,nY⟩;have k0:w1.cell? ⟨w.heap.size,0,none⟩=some (.bool m):=(nY.cell (p:=⟨_,0,none⟩) hz).trans c0;have k1:w1.cell? ⟨w.heap.size,1,none⟩=some (.slice B b.length d):=(nY.cell (p:=⟨_,1,none⟩) hz).trans c1)
    | (go_at_call 192;refine(aah _ v1 (65+k) 64 (l.take k).sum l[k] _ (by omega) (by omega) _ _ (by exact xQ.drew.below nY) hbig1).mono ?_;rintro e w2 ⟨m2,B2,d2,b2,rfl,mr,hbig2⟩;have uE:=nY.trans (mr.mono nY.size);have Ov:=b0.drew.below uE hz;obtain⟨e0,e1⟩:=Ov.c2;have ef:=Ov.frozen))
   all_goals
    go_wp2_with fail;go_roundw;case rel=>exact⟨k+1,m2,B2,d2,b2,by omega,by go_num,(Ov.lA 0 _).lA 1 _,by rw[<-HS.out];exact(((hbig2.more (K':=65+(k+1)) (by omega) (YL hz nY.size)).lA (p:=(w.heap.size,0)) (by simp) _).lA (p:=(w.heap.size,1)) (by simp) _),((hw.drew.trans (uE.mono hw.size)).setCell (p:=(w.heap.size,0)) (X7 _) _).setCell (p:=(w.heap.size,1)) (X7 _) _⟩
    case measure=>simp[intOf];omega
  ·obtain rfl:k=l.length:=(by omega);rw[YY (X7 _)]at xQ;clear hr;go_wp2_with fail;refine(Kq _ _ _ _ (by omega) _ xQ).mono ?_;rintro e w' ⟨rfl,mr⟩;go_wp2_with fail;go_ret2;exact⟨rfl,hw.trans (mr.mono hw.size)⟩
end
end Go.Proofs.YtjhingednpjogaaGreat
