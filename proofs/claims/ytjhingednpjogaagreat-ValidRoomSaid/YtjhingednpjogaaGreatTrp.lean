/- Lemmas for ValidRoom; laid together by a program. -/
import Derived.Test.YtjhingednpjogaaGreatRefe
import Derived.Deep.MidRow
import Derived.Laws.StructEq
import Derived.OneCell
import Derived.Laws.CopyRow
import Derived.Deep.WholeRow
set_option linter.all false
set_option maxRecDepth 100000
set_option maxHeartbeats 800000
namespace Go.Proofs.YtjhingednpjogaaGreat
open Go.Proofs.Tryz
section
open Go.RowKit
attribute [local go_sem] lp
def uP(l:List Int):List Value:=l.map (Value.int .u16)
def xh(l:List Int):Prop:=∀x∈l,0<=x/\x<65536
theorem xh.at_{l:List Int}(h:xh l){k:Nat}(hk:k<l.length):0<=l[k]/\l[k]<65536:=h _ (YJ hk)
def adv(t:List Int)(u:Int):Int:=t[u.toNat]?.getD 0
def oC(t:List Int)(l:List Int):List Int:=l.map (adv t)
theorem DO(t l:List Int):(oC t l).length=l.length:=by simp[oC]
theorem PJ{t:List Int}(h:rM t)(u:Int): -9223372036854775808<=adv t u/\adv t u<9223372036854775808:=by
 unfold adv;rcases Z6 u.toNat t.length with hl | hl
 ·rw[YH hl];exact h.at_ hl
 ·rw[ZG hl];simp
theorem Wz{t:List Int}(h:rM t)(l:List Int):rM (oC t l):=by intro x hx;simp only[oC,Z7]at hx;obtain⟨u,_,rfl⟩:=hx;exact PJ h u
section
variable(t:List Int)(A:Option Addr)(c:Nat)(w:World)(hr:Reads w w.heap.size 1 A t.length (lY t))
include hr
theorem Lz(u:Int)(hu0:0<=u)(XT:u<65536):Calls prog 126 #[.int .u16 u,.slice A t.length c] w λe w'=>e= .returned (.int .i64 (adv t u))/\w=w':=by
 obtain⟨k,rfl⟩:=ZY hu0;by_cases lN:k<t.length
 ·obtain⟨ad,v,rfl,qu,hx,hc⟩:=hr.at_ lN;have hv:v= .int .i64 (adv t k):=by simp[lY,lN]at hx;rw[<-hx];simp[adv,lN]
  subst hv;clear hx hr;go_enter func126,ntmps126;go_wp2_with fail;go_ret;exact⟨rfl,rfl⟩
 ·have hv:adv t k=0:=by simp[adv,Nat.le_of_not_lt lN]
  have HV:=X6 hv;clear hr hv;go_enter func126,ntmps126;go_wp2_with fail;go_ret;exact⟨by rw[HV.out];rfl,rfl⟩
end
theorem Ja:El prog 23 2 (.int .i64 0) 1 8:=⟨underlying23,by kernel_rfl,rfl,by decide⟩
def filled(t l:List Int)(k:Nat):List Value:=(List.range l.length).map λj=>if j<k then .int .i64 (adv t (l[j]?.getD 0))else .int .i64 0
theorem Qr(l t:List Int)(A B:Option Addr)(c d:Nat)(w:World)(hl:xh l)(ht:rM t)(hn:l.length<=1048000)(tf:Reads w w.heap.size 1 A l.length (uP l))(RU:Reads w w.heap.size 1 B t.length (lY t)): Calls prog 123 #[.slice A l.length c,.slice B t.length d] w λe w'=>e= .returned (.tuple #[.int .i64 (lU (oC t l).sum),.bool (mG (oC t l).sum)])/\Below w.heap.size w w':=by
 have HT:=X6 RU;clear RU;go_enter func123,ntmps123;go_wp2_with fail;go_loopw [6,7] (λo i wr=>∃k:Nat,k<=l.length/\i= .int .i64 k/\wr.ownsRow w.heap.size 2 1 o k (lY (oC t (l.take k)))/\Below w.heap.size w wr) (λ_ i _=>l.length-(intOf i).toNat);case atStart=>exact⟨0,by omega,rfl,YV _ _ _ _,ZN _ _⟩
 case round=>
  obtain⟨k,hk,rfl,lV,hw⟩:=hrel;by_cases lN:k<l.length
  ·obtain⟨ad,u,rfl,qu,hx,hc⟩:=(tf.below hw).at_ lN;have hu:u= .int .u16 l[k]:=(by simpa[uP,lN]using hx.symm);subst hu;have wC:=hl.at_ lN;have HF:Hid (lY (oC t (l.take (k+1)))=lY (oC t (l.take k))++[.int .i64 (adv t l[k])]):=X6 (by rw[YU lN,oC,ZJ,lY,ZJ];rfl);clear hx tf;go_wp2_with fail;refine(Lz t B d _ ((HT.below hw).more hw.size) l[k] wC.1 wC.2).mono ?_;rintro e w' ⟨rfl,rfl⟩;go_wp2_with (at_builtin;refine lM rfl _ _ rfl Ja lV hw.size rfl [_] rfl (by simp) (by simp[Value.oneCell']) (by omega) (by omega) ?_;intro A' c' w' nZ hB hg _);go_roundw;case rel=>exact⟨k+1,by omega,by go_num,by rw[HF.out];exact nZ,hB _ _ (X7 _) hw⟩
   case measure=>simp[intOf];omega
  ·obtain rfl:k=l.length:=(by omega);rw[YY (X7 _)]at lV;obtain⟨Ao,co,rfl⟩:=lZ lV;have Zx:Reads wr wr.heap.size 1 Ao (oC t l).length (lY (oC t l)):=(by rw[DO];exact Reads.mo lV);have xG:(oC t l).length<=1048000:=(by rw[DO];omega);have HC:=X6 (ti (oC t l) Ao co wr (Wz ht l) xG Zx);rw[DO]at HC;clear tf Zx xG;go_wp2_with fail;refine HC.mono ?_;rintro e w' ⟨rfl,hb⟩;go_wp2_with fail;go_ret2;exact⟨rfl,hw.trans (hb.mono hw.size)⟩
end
section
open Go.ChangeShapes Go.WideShapes Go.ChangeAt Go.RowKit
theorem Rg{n:Int}(h:(Lit.int .u16 n).wf=true):0<=n/\n<65536:=by have h1:IntKind.u16.min=0:=rfl;have h2:IntKind.u16.max=65535:=rfl;simp only[Lit.wf,Z3,ZU]at h;omega
theorem i64_wf{n:Int}(h:(Lit.int .i64 n).wf=true): -9223372036854775808<=n/\n<9223372036854775808:=by have h1:IntKind.i64.min= -9223372036854775808:=rfl;have h2:IntKind.i64.max=9223372036854775807:=rfl;simp only[Lit.wf,Z3,ZU]at h;omega
theorem Hp(f:Int->Value)(l:List Int):l.flatMap (λx=>[f x])=l.map f:=by
 induction l with
 | nil=>rfl
 | cons a t ih=>simp[List.flatMap_cons,ih]
section
variable{H:Type}{enc:TypeId×Value->H}
theorem NS{W:World}{v:Value}{d:DataW H}{ps:List MemPlace}(lN:∀x∈ps,x.block<W.heap.size)(hv:∃A len c,v= .slice A len c)(h:DataW.Trod enc prog W 0 (λ_=>true) true 61 v d ps): ∃A c,∃l:List Int,v= .slice A l.length c/\l.length<=c/\xh l/\Reads W W.heap.size 1 A l.length (uP l):=by obtain⟨A,c,l,e,hc,hg,hr⟩:=Dr (encd:=λx=>[Value.int .u16 x]) (good:=λx=>0<=x/\x<65536) underlying61 (show prog.cellsOf 203=1 by kernel_rfl) (by omega) (λn cs y hl h=>by obtain⟨x,e,-,hw⟩:=Z0 underlying203 h;exact⟨x,e,Rg hw⟩) lN hv h;rw[Hp]at hr;exact⟨A,c,l,e,hc,hg,hr⟩
theorem Nx{W:World}{v:Value}{d:DataW H}{ps:List MemPlace}(lN:∀x∈ps,x.block<W.heap.size)(hv:∃A len c,v= .slice A len c)(h:DataW.Trod enc prog W 0 (λ_=>true) true 23 v d ps): ∃A c,∃l:List Int,v= .slice A l.length c/\l.length<=c/\rM l/\Reads W W.heap.size 1 A l.length (lY l):=by obtain⟨A,c,l,e,hc,hg,hr⟩:=Dr (encd:=λx=>[Value.int .i64 x]) (good:=λx=> -9223372036854775808<=x/\x<9223372036854775808) underlying23 (show prog.cellsOf 2=1 by kernel_rfl) (by omega) (λn cs y hl h=>by obtain⟨x,e,-,hw⟩:=Z0 underlying2 h;exact⟨x,e,i64_wf hw⟩) lN hv h;rw[Hp]at hr;exact⟨A,c,l,e,hc,hg,hr⟩
end
end
section
open Go.RowKit
structure Ln where
 k:Int
 n:Int
 deriving DecidableEq
structure me where
 kind:Int
 Iw:Bool
 float:Int
 clear:Int
 w:Ln
 h:Ln
 my:Ln
 mz:Ln
 xU:Ln
 xY:Ln
 m0:Ln
 m1:Ln
 m2:Ln
 m3:Ln
 b0:Int
 b1:Int
 b2:Int
 b3:Int
 p0:Int
 p1:Int
 p2:Int
 p3:Int
 align:Int
 line:Int
 wrap:Bool
 vx:Int
 items:Int
 order:Int
 grow:Int
 shrink:Int
 basis:Ln
 mu:List Int
 uv:Value
def lj(s:me):List Value:=[.int .u8 s.kind,.bool s.Iw,.int .u8 s.float,.int .u8 s.clear,.int .u8 s.w.k,.int .i64 s.w.n,.int .u8 s.h.k,.int .i64 s.h.n,.int .u8 s.my.k,.int .i64 s.my.n,.int .u8 s.mz.k,.int .i64 s.mz.n,.int .u8 s.xU.k,.int .i64 s.xU.n,.int .u8 s.xY.k,.int .i64 s.xY.n,.int .u8 s.m0.k,.int .i64 s.m0.n,.int .u8 s.m1.k,.int .i64 s.m1.n,.int .u8 s.m2.k,.int .i64 s.m2.n,.int .u8 s.m3.k,.int .i64 s.m3.n,.int .i64 s.b0,.int .i64 s.b1,.int .i64 s.b2,.int .i64 s.b3,.int .i64 s.p0,.int .i64 s.p1,.int .i64 s.p2,.int .i64 s.p3,.int .u8 s.align,.int .i64 s.line,.bool s.wrap,.int .u8 s.vx,.int .u8 s.items,.int .i64 s.order,.int .i64 s.grow,.int .i64 s.shrink,.int .u8 s.basis.k,.int .i64 s.basis.n,s.uv]
theorem lL(s:me):(lj s).length=43:=rfl
theorem qD(s:me):(lj s).toArray.size=43:=rfl
theorem Eh(s:me):(lj s).toArray[0]? =some (.int .u8 s.kind):=rfl
theorem sty_a1(s:me):(lj s).toArray[1]? =some (.bool s.Iw):=rfl
theorem JK(s:me):(lj s).toArray[2]? =some (.int .u8 s.float):=rfl
theorem Im(s:me):(lj s).toArray[3]? =some (.int .u8 s.clear):=rfl
theorem Ok(s:me):(lj s).toArray[4]? =some (.int .u8 s.w.k):=rfl
theorem MN(s:me):(lj s).toArray[5]? =some (.int .i64 s.w.n):=rfl
theorem Wm(s:me):(lj s).toArray[6]? =some (.int .u8 s.h.k):=rfl
theorem Wl(s:me):(lj s).toArray[7]? =some (.int .i64 s.h.n):=rfl
theorem MG(s:me):(lj s).toArray[8]? =some (.int .u8 s.my.k):=rfl
theorem Ml(s:me):(lj s).toArray[9]? =some (.int .i64 s.my.n):=rfl
theorem IY(s:me):(lj s).toArray[10]? =some (.int .u8 s.mz.k):=rfl
theorem Jr(s:me):(lj s).toArray[11]? =some (.int .i64 s.mz.n):=rfl
theorem O1(s:me):(lj s).toArray[12]? =some (.int .u8 s.xU.k):=rfl
theorem ON(s:me):(lj s).toArray[13]? =some (.int .i64 s.xU.n):=rfl
theorem OO(s:me):(lj s).toArray[14]? =some (.int .u8 s.xY.k):=rfl
theorem OQ(s:me):(lj s).toArray[15]? =some (.int .i64 s.xY.n):=rfl
theorem sty_a18(s:me):(lj s).toArray[18]? =some (.int .u8 s.m1.k):=rfl
theorem sty_a19(s:me):(lj s).toArray[19]? =some (.int .i64 s.m1.n):=rfl
theorem aaf(s:me):(lj s).toArray[22]? =some (.int .u8 s.m3.k):=rfl
theorem sty_a23(s:me):(lj s).toArray[23]? =some (.int .i64 s.m3.n):=rfl
theorem P1(s:me):(lj s).toArray[32]? =some (.int .u8 s.align):=rfl
theorem PF(s:me):(lj s).toArray[33]? =some (.int .i64 s.line):=rfl
theorem Zh(s:me):(lj s).toArray[34]? =some (.bool s.wrap):=rfl
theorem Pw(s:me):(lj s).toArray[35]? =some (.int .u8 s.vx):=rfl
theorem PR(s:me):(lj s).toArray[36]? =some (.int .u8 s.items):=rfl
theorem OS(s:me):(lj s).toArray[37]? =some (.int .i64 s.order):=rfl
theorem Pe(s:me):(lj s).toArray[38]? =some (.int .i64 s.grow):=rfl
theorem OX(s:me):(lj s).toArray[39]? =some (.int .i64 s.shrink):=rfl
theorem PL(s:me):(lj s).toArray[40]? =some (.int .u8 s.basis.k):=rfl
theorem PH(s:me):(lj s).toArray[41]? =some (.int .i64 s.basis.n):=rfl
theorem IF(s:me):(lj s).toArray[42]? =some (s.uv):=rfl
structure Nd where
 parent:Int
 s:me
def oe(x:Nd):List Value:= .int .i64 x.parent::lj x.s
def lI(l:List Nd):List Value:=l.flatMap oe
theorem Iv(x:Nd):(oe x).length=44:=rfl
theorem wH(l:List Nd):∀(k i:Nat) (hk:k<l.length),i<44->(lI l)[k*44+i]? =(oe l[k])[i]?:=by
 induction l with
 | nil=>intro k i hk;simp at hk
 | cons a t ih=>
  intro k i hk hi;have hc:lI (a::t)=oe a++lI t:=by simp[lI]
  rw[hc];rcases k with _ | k
  ·rw[YN (by rw[Iv];omega)];simp
  ·rw[YQ (by rw[Iv];omega),Iv,show(k+1)*44+i-44=k*44+i by omega,ih k i (by simpa using hk) hi];simp
structure Ki(w:World)(B:Nat)(p:Addr)(x:Nd):Prop where
 lt:p.block<B
 par:w.cell? p=x.parent
 cs:∀i u,(lj x.s)[i]? =some u->w.cell? ⟨p.block,p.off+(1+i),none⟩=some u
theorem Reads.nd{w:World}{B n k:Nat}{A:Option Addr}{l:List Nd}(h:Reads w B 44 A n (lI l))(hn:n=l.length)(hk:k<l.length): ∃ad:Addr,A=some ad/\Ki w B (ad.add (k*44)) l[k]:=by
 obtain⟨ad,e,hb,hc⟩:=h.2 (by omega);refine⟨ad,e,⟨by rw[lp];exact hb,?_,λi u hu=>?_⟩⟩
 ·exact hc _ _ (by have:=wH l k 0 hk (by omega);rw[Nat.add_zero]at this;rw[this];rfl)
 ·have hi:i<43:=by have:=(YT.1 hu).1;rw[lL]at this;exact this
  have ha:(⟨(ad.add (k*44)).block,(ad.add (k*44)).off+(1+i),none⟩:Addr)=ad.add (k*44+(1+i)):=by rw[<-mJ,show∀p:Addr,p.add (1+i)=⟨p.block,p.off+(1+i),none⟩from λp=>by unfold Addr.add;rw[YO (by omega)]]
  rw[ha];exact hc _ u (by rw[wH l k (1+i) hk (by omega),show 1+i=i+1 by omega];exact hu)
theorem Ki.keep{w w':World}{B:Nat}{p:Addr}{x:Nd}(h:Ki w B p x)(hk:∀q:Addr,q.block<B->w'.cell? q=w.cell? q):Ki w' B p x:=
 ⟨h.lt,(hk p h.lt).trans h.par,λi u hu=>(hk ⟨p.block,p.off+(1+i),none⟩ h.lt).trans (h.cs i u hu)⟩
theorem Ki.range{w:World}{B:Nat}{p:Addr}{x:Nd}(h:Ki w B p x):w.rangeAt p.block (p.off+1) (lj x.s):=λj v hv=>by
 have:=h.cs j v hv;rw[<-Nat.add_assoc]at this;exact this
structure Bq(w:World)(B:Nat)(v:Value)(l:List Nd)(adv:List Int)(view:Int):Prop where
 ex:∃A c A2 c2,v= .agg #[.slice A l.length c,.slice A2 adv.length c2,.int .i64 view]/\Reads w B 44 A l.length (lI l)/\Reads w B 1 A2 adv.length (adv.map (Value.int .i64))
 un:∀x∈l,∃A c,x.s.uv= .slice A x.s.mu.length c/\x.s.mu.length<=c/\Reads w B 1 A x.s.mu.length (x.s.mu.map (Value.int .u16))
theorem Bq.keep{w w':World}{B:Nat}{v:Value}{l:List Nd}{adv:List Int}{view:Int}(h:Bq w B v l adv view)(hk:∀q:Addr,q.block<B->w'.cell? q=w.cell? q):Bq w' B v l adv view:=by obtain⟨⟨A,c,A2,c2,e,h1,h2⟩,hu⟩:=h;refine⟨⟨A,c,A2,c2,e,h1.keep hk,h2.keep hk⟩,λx hx=>?_⟩;obtain⟨A3,c3,e3,h3,h4⟩:=hu x hx;exact⟨A3,c3,e3,h3,h4.keep hk⟩
theorem Bq.below{w w':World}{B:Nat}{v:Value}{l:List Nd}{adv:List Int}{view:Int}(h:Bq w B v l adv view)(hb:Below B w w'):Bq w' B v l adv view:=h.keep λ_ hp=>hb.cell hp
end
section
structure Sp where
 fr:Nat
 up:Nat
 ends:Nat
 sp:Bool
structure Sc where
 s:Sp
 ins:Bool
 out:List Sp
def Sp.nil:Sp:=⟨0,0,0,false⟩
def gap(u:Int):Bool:=decide (u=32) || decide (u=10)
def xd(c:Sc)(i:Nat)(u:Int):Sc:=
 if u=32 then
  if c.ins then⟨⟨0,0,0,true⟩,false,c.out++[⟨c.s.fr,i,c.s.ends,c.s.sp⟩]⟩else⟨⟨c.s.fr,c.s.up,c.s.ends,true⟩,false,c.out⟩
 else if u=10 then
  if c.ins then⟨⟨0,0,1,false⟩,false,c.out++[⟨c.s.fr,i,c.s.ends,c.s.sp⟩]⟩else⟨⟨c.s.fr,c.s.up,c.s.ends+1,c.s.sp⟩,false,c.out⟩
 else if c.ins then c else⟨⟨i,c.s.up,c.s.ends,c.s.sp⟩,true,c.out⟩
def sc(l:List Int):Nat->Sc
 | 0=>⟨Sp.nil,false,[]⟩
 | k+1=>xd (sc l k) k (l[k]?.getD 0)
def nV(l:List Int):List Sp:=
 if(sc l l.length).ins then(sc l l.length).out++[⟨(sc l l.length).s.fr,l.length,(sc l l.length).s.ends,(sc l l.length).s.sp⟩]else(sc l l.length).out
theorem CR(l:List Int)(k:Nat):(sc l k).s.ends<=k:=by
 induction k with
 | zero=>simp[sc,Sp.nil]
 | succ k ih=>
  simp only[sc,xd]
  repeat' split
  all_goals try dsimp only
  all_goals omega
theorem RZ(l:List Int)(k:Nat):((sc l k).ins=true->(sc l k).s.fr<k)/\(∀s∈(sc l k).out,s.fr<s.up/\s.up<=k/\s.ends<=k):=by
 induction k with
 | zero=>simp[sc,Sp.nil]
 | succ k ih=>
  obtain⟨h1,h2⟩:=ih;have he:=CR l k;simp only[sc,xd]
  repeat' split
  all_goals refine⟨?_,λs hs=>?_⟩
  all_goals first
   | (intro hi;first | (simp at hi;done) | (have:=h1 hi;omega) | (dsimp only;omega))
   | (
    dsimp only at hs;rcases YW.1 hs with hs | hs
    ·have:=h2 s hs;omega
    ·rw[aA0]at hs;subst hs;have:=h1 ‹_›;dsimp only;omega)
   | (have:=h2 s hs;omega)
theorem Ae(l:List Int):∀s∈nV l,s.fr<s.up/\s.up<=l.length/\s.ends<=l.length:=by
 intro s hs;obtain⟨h1,h2⟩:=RZ l l.length;have he:=CR l l.length;unfold nV at hs
 split at hs
 ·rcases YW.1 hs with hs | hs
  ·exact h2 s hs
  ·rw[aA0]at hs;subst hs;have:=h1 ‹_›;dsimp only;omega
 ·exact h2 s hs
theorem Rc(l:List Int)(k:Nat):(sc l k).out.length+(if(sc l k).ins then 1 else 0)<=k:=by
 induction k with
 | zero=>simp[sc]
 | succ k ih=>
  simp only[sc,xd]
  repeat' split
  all_goals simp_all
  all_goals omega
theorem Oo(l:List Int):(nV l).length<=l.length:=by
 have:=Rc l l.length;unfold nV
 split
 ·simp_all
 ·simp_all
end
section
open Go.RowKit
structure Wd where
 fr:Int
 up:Int
 w:Int
 gap:Int
 forced:Int
def na(x:Wd):List Value:=[.int .i64 x.fr,.int .i64 x.up,.int .i64 x.w,.int .i64 x.gap,.int .i64 x.forced]
def mC(l:List Wd):List Value:=l.flatMap na
theorem ui(l:List Wd)(x:Wd):mC (l++[x])=mC l++na x:=by simp[mC]
def part(l:List Int)(s:Sp):List Int:=(l.drop s.fr).take (s.up-s.fr)
def vW(first:Bool)(s:Sp):Bool:=s.sp && decide (s.ends=0) && !first
def L8(t l:List Int)(first:Bool)(s:Sp):Wd:=⟨s.fr,s.up,lU (oC t (part l s)).sum,if vW first s then lU (adv t 32)else 0,s.ends⟩
def vX(t l:List Int)(first:Bool)(s:Sp):Bool:=mG (oC t (part l s)).sum || (vW first s && mG (adv t 32))
def r6(t l:List Int)(c:List Wd×Bool)(s:Sp):List Wd×Bool:=(c.1++[L8 t l c.1.isEmpty s],c.2 || vX t l c.1.isEmpty s)
def lT(t l:List Int)(pre:List Sp):List Wd×Bool:=pre.foldl (r6 t l) ([],false)
theorem qY(t l:List Int)(pre:List Sp)(s:Sp):lT t l (pre++[s])=r6 t l (lT t l pre) s:=by simp[lT]
theorem Cy(t l:List Int)(pre:List Sp):∀c:List Wd×Bool,(pre.foldl (r6 t l) c).1.length=c.1.length+pre.length:=by
 induction pre with
 | nil=>intro c;simp
 | cons s pre ih=>intro c;rw[aB0,ih];simp[r6];omega
theorem xe(t l:List Int)(pre:List Sp):(lT t l pre).1.length=pre.length:=by rw[lT,Cy];simp
def ng(t l:List Int):List Wd×Bool:=lT t l (nV l)
end
section
open Go.RowKit
attribute [local go_sem] lp
theorem Wd.Lk(a b:Wd):a=b↔a.fr=b.fr/\a.up=b.up/\a.w=b.w/\a.gap=b.gap/\a.forced=b.forced:=by
 constructor
 ·rintro rfl;simp
 ·rintro⟨h1,h2,h3,h4,h5⟩;cases a;cases b;simp_all
instance:DecidableEq Wd:=λa b=>decidable_of_iff _ (Wd.Lk a b).symm
theorem LU(l:List Wd):∀(k i:Nat) (hk:k<l.length),i<5->(mC l)[k*5+i]? =(na l[k])[i]?:=by
 induction l with
 | nil=>intro k i hk;simp at hk
 | cons a t ih=>
  intro k i hk hi;have hl:(na a).length=5:=rfl;have hc:mC (a::t)=na a++mC t:=by simp[mC]
  rw[hc];rcases k with _ | k
  ·rw[YN (by omega)];simp
  ·rw[YQ (by omega),show(k+1)*5+i-(na a).length=k*5+i by omega,ih k i (by simpa using hk) hi];simp
theorem Reads.wd{w:World}{B n k:Nat}{A:Option Addr}{l:List Wd}(h:Reads w B 5 A n (mC l))(hn:n=l.length)(hk:k<l.length): ∃ad:Addr,A=some ad/\ad.block<B/\w.cell? (ad.add (k*5))=some (.int .i64 l[k].fr)/\w.cell? (ad.block,(ad.add (k*5)).off+1)=some (.int .i64 l[k].up)/\w.cell? (ad.block,(ad.add (k*5)).off+2)=some (.int .i64 l[k].w)/\ w.cell? (ad.block,(ad.add (k*5)).off+3)=some (.int .i64 l[k].gap)/\w.cell? (ad.block,(ad.add (k*5)).off+4)=some (.int .i64 l[k].forced):=by
 obtain⟨ad,e,hb,hc⟩:=h.2 (by omega);have ha:∀i,i≠0->(⟨ad.block,(ad.add (k*5)).off+i,none⟩:Addr)=ad.add (k*5+i):=by intro i hi;rw[<-mJ,show∀p:Addr,p.add i=⟨p.block,p.off+i,none⟩from λp=>by unfold Addr.add;rw[YO hi],lp]
 have hg:∀i,i<5->∀u,(na l[k])[i]? =some u->w.cell? (ad.add (k*5+i))=some u:=λi hi u hu=>hc _ u (by rw[LU l k i hk hi];exact hu);refine⟨ad,e,hb,hg 0 (by omega) _ rfl,?_,?_,?_,?_⟩
 ·rw[ha 1 (by omega)];exact hg 1 (by omega) _ rfl
 ·rw[ha 2 (by omega)];exact hg 2 (by omega) _ rfl
 ·rw[ha 3 (by omega)];exact hg 3 (by omega) _ rfl
 ·rw[ha 4 (by omega)];exact hg 4 (by omega) _ rfl
theorem eqW(a1 a2 a3 a4 a5 b1 b2 b3 b4 b5:Int)(w:World):(Op.equalIn 10000 201 (.agg #[a1,a2,a3,a4,a5]) (.agg #[b1,b2,b3,b4,b5])).run prog w= .ok (a1 == b1 && a2 == b2 && a3 == b3 && a4 == b4 && a5 == b5) w:=by
 have u2:=underlying2;have u3:=underlying3;have g2:=Tryz.isAgg2;have g3:=Tryz.isAgg3;have z2:=Tryz.sizeOf2;have z3:=Tryz.sizeOf3;have hS:prog.underlying 201=some (.struct (prog.fieldsOf 201)):=by kernel_rfl
 have hp:prog.stoodInHeld 201=false:=by kernel_rfl
 rw[show(10000:Nat)=9999+1 from rfl,run_equalIn_agg w 9999 201 _ _ hS hp];simp only[Program.fieldsOf,underlying201];go_simp;by_cases h1:a1=b1<;>by_cases h2:a2=b2<;>by_cases h3:a3=b3<;>by_cases h4:a4=b4<;>by_cases h5:a5=b5<;>simp[h1,h2,h3,h4,h5]
theorem Wd.cases(x y:Wd):x=y\/x≠y/\(x.fr≠y.fr\/x.fr=y.fr/\x.up≠y.up\/x.fr=y.fr/\x.up=y.up/\x.w≠y.w\/x.fr=y.fr/\x.up=y.up/\x.w=y.w/\x.gap≠y.gap\/x.fr=y.fr/\x.up=y.up/\x.w=y.w/\x.gap=y.gap/\x.forced≠y.forced):=by
 by_cases h:x=y
 ·exact .inl h
 ·refine .inr ⟨h,?_⟩;rw[Wd.Lk]at h;by_cases h1:x.fr=y.fr<;>by_cases h2:x.up=y.up<;>by_cases h3:x.w=y.w<;>by_cases h4:x.gap=y.gap<;>by_cases h5:x.forced=y.forced<;>simp_all
theorem guardW(op:BinOp)(x y:Operand)(xs ys:Array Value)(w:World):(eqGuard op 201 x y (.agg xs) (.agg ys)).run prog w= .ok () w:=aDD w op _ x y xs ys (by kernel_rfl)
attribute [local go_sem] eqW guardW
end
section
structure Ex where
 least:Int
 vK:Int
 lQ:Bool
 row:Int
def qd(k:Nat)(x:Wd):Bool:=decide (k=0) || decide (0<x.forced)
def rh(c:Ex):Ex:=⟨c.least,max c.vK (lU c.row),c.lQ || mG c.row,c.row⟩
def pS(k:Nat)(m:Int)(x:Wd):Int:=if k=0\/m<x.w then x.w else m
def wU(k:Nat)(c:Ex)(x:Wd):Ex:=
 if qd k x then⟨pS k c.least x,(rh c).vK,(rh c).lQ,x.w⟩else⟨pS k c.least x,c.vK,c.lQ,c.row+(x.gap+x.w)⟩
def oM(l:List Wd):Nat->Ex
 | 0=>⟨0,0,false,0⟩
 | k+1=>match l[k]? with | some x=>wU k (oM l k) x | none=>oM l k
def xy(l:List Wd):Int×Int×Bool:=((oM l l.length).least,(rh (oM l l.length)).vK,(rh (oM l l.length)).lQ)
theorem sU(l:List Wd){k:Nat}(h:k<l.length):oM l (k+1)=wU k (oM l k) l[k]:=by simp[oM,h]
def VF:List Wd->Int
 | []=>0
 | x::t=>if 0<x.forced then 0 else x.w+x.gap+VF t
def po(l:List Wd)(k:Nat):Int:=VF (l.drop k)
theorem EM(l:List Wd){k:Nat}(h:l.length<=k):po l k=0:=by unfold po;rw[List.drop_eq_nil_of_le h];rfl
theorem xA(l:List Wd){k:Nat}(h:k<l.length):po l k=if 0<l[k].forced then 0 else l[k].w+l[k].gap+po l (k+1):=by unfold po;rw[ZH h];rfl
def uf(l:List Wd)(k:Nat):Int×Bool:=if k=0 then(0,false)else(max (oM l k).vK (lU ((oM l k).row+po l k)),(oM l k).lQ || mG ((oM l k).row+po l k))
theorem VG(l:List Wd):uf l l.length=((xy l).2.1,(xy l).2.2):=by
 unfold uf xy rh;rw[EM l (X7 _)];by_cases h:l.length=0
 ·rw[YP h,h];simp[oM,lU,mG]
 ·rw[YO h];simp
theorem refG_go(l:List Wd){k:Nat}(h:k<l.length)(hs:qd k l[k]=false):uf l (k+1)=uf l k:=by
 have Zl:=hs;simp only[qd,aBR,aA6]at Zl;have e:(oM l k).row+po l k=(oM l (k+1)).row+po l (k+1):=by rw[xA l h,YO Zl.2,sU l h,wU,YO (by simp[hs])];show _=(oM l k).row+(l[k].gap+l[k].w)+_;omega
 unfold uf;rw[YO (by omega),YO Zl.1,e,sU l h,wU,YO (by simp[hs])]
theorem WU(l:List Wd){k:Nat}(h:k<l.length)(hs:qd k l[k]=true): uf l (k+1)=(max (uf l k).1 (lU (l[k].w+po l (k+1))),(uf l k).2 || mG (l[k].w+po l (k+1))):=by
 unfold uf;rw[YO (by omega),sU l h,wU,YP hs];by_cases h0:k=0
 ·subst h0;simp[rh,oM,lU,mG]
 ·have hf:0<l[k].forced:=by simpa[qd,h0]using hs
  rw[YO h0,xA l h,YP hf];simp[rh]
theorem Nu(l:List Wd){k:Nat}(h:k<l.length):(oM l (k+1)).least=pS k (oM l k).least l[k]:=by rw[sU l h,wU];split<;>rfl
def W64(x:Wd):Prop:=(-9223372036854775808<=x.w/\x.w<9223372036854775808)/\(-9223372036854775808<=x.gap/\x.gap<9223372036854775808)
def VH(l:List Wd):Prop:=∀x∈l,W64 x
theorem VH.at_{l:List Wd}(h:VH l){k:Nat}(hk:k<l.length):W64 l[k]:=h _ (YJ hk)
end
section
structure Cn where
 least:Int
 lC:Int
 ol:Int
 og:Int
 deriving DecidableEq
def mP(c:Cn):List Value:=[.int .i64 c.least,.int .i64 c.lC,.int .i64 c.ol,.int .i64 c.og]
def qy(got:List Cn)(k:Nat):Cn:=(got[k]?).getD ⟨0,0,0,0⟩
def qe(got:List Cn)(n:Nat):List Cn:=(List.range n).map (qy got)
def GV(l:List Int):Int:=l.foldl max 0
def mS(s:me):Int:=s.b3+s.b1+s.p3+s.p1
def o7(l:Ln):Int:=if l.k=1 then l.n else 0
def EO(s:me)(v:Int):Int:=if s.w.k=1 then s.w.n else v
def wN(l:List Nd)(i:Int):Option me:=if 0<=i then(l[i.toNat]?).map Nd.s else none
def lP(l:List Nd)(adv:List Int):List Int->List Wd×List Int×Bool
 | []=>([],[],false)
 | k::t=>match wN l k with
  | none=>lP l adv t
  | some s=>let r:=ng adv s.mu;let g:=lP l adv t;(r.1++g.1,List.replicate r.1.length k++g.2.1,r.2 || g.2.2)
structure zp(s:me):Prop where
 w:0<=s.w.n/\s.w.n<=1099511627776
 mz:0<=s.mz.n/\s.mz.n<=1099511627776
 my:0<=s.my.n/\s.my.n<=1099511627776
 m1: -1099511627776<=s.m1.n/\s.m1.n<=1099511627776
 m3: -1099511627776<=s.m3.n/\s.m3.n<=1099511627776
 b1:0<=s.b1/\s.b1<=1099511627776
 b3:0<=s.b3/\s.b3<=1099511627776
 p1:0<=s.p1/\s.p1<=1099511627776
 p3:0<=s.p3/\s.p3<=1099511627776
theorem aaE{a:Int}(h0: -1099511627776<=a)(h:a<=1099511627776):lU a=a:=by unfold lU;rw[YO (by omega),YO (by omega)]
theorem Zu(a:Int):lU a<=1099511627776:=by unfold lU;repeat' split;all_goals omega
theorem AN{a:Int}(h:0<=a):0<=lU a:=by unfold lU;repeat' split;all_goals omega
theorem sum_nn{l:List Int}(h:∀x∈l,0<=x):0<=l.sum:=by
 induction l with
 | nil=>simp
 | cons a t ih=>have h1:=h a (by simp);have h2:=ih λx hx=>h x (by simp[hx]);simp only[ZF];omega
end
section
open Go.RowKit
structure Kp(bad:Nat->Prop)(w w':World):Prop where
 os:w'.os=w.os
 tape:w'.tape=w.tape
 output:w'.output=w.output
 size:w.heap.size<=w'.heap.size
 block:∀k,k<w.heap.size->¬bad k->w'.heap[k]? =w.heap[k]?
section
variable{bad bad':Nat->Prop}{a b w w':World}{B g:Nat}{t:TypeId}{cs:Array Value}
theorem Kp.refl(bad:Nat->Prop)(w:World):Kp bad w w:=⟨rfl,rfl,rfl,X7 _,λ_ _ _=>rfl⟩
theorem Kp.trans(h:Kp bad a b)(k:Kp bad b w):Kp bad a w:=
 ⟨k.os.trans h.os,k.tape.trans h.tape,k.output.trans h.output,YL h.size k.size,λi hi hn=>(k.block i (YK hi h.size) hn).trans (h.block i hi hn)⟩
theorem Kp.mono(h:Kp bad a b)(hb:∀k,bad k->bad' k):Kp bad' a b:=⟨h.os,h.tape,h.output,h.size,λk hk hn=>h.block k hk λx=>hn (hb k x)⟩
theorem Kp.drew(h:Kp bad a w):Kp bad a w.drew:=⟨h.os,h.tape,h.output,h.size,h.block⟩
theorem Kp.drewN(h:Kp bad a w)(n:Nat):Kp bad a (w.drewN n):=⟨h.os,h.tape,h.output,h.size,h.block⟩
theorem Kp.alloc(h:Kp bad a w)(o:Obj):Kp bad a (w.alloc o):=h.trans ⟨rfl,rfl,rfl,by simp,λk hk _=>aBU _ _ _ hk⟩
theorem Kp.setCell(h:Kp bad a w){p:Addr}(hp:bad p.block\/a.heap.size<=p.block)(u:Value):Kp bad a (w.setCell p u):=
 ⟨h.os,h.tape,h.output,by simpa[World.setCell]using h.size,λk hk hn=>(ZS w p u k (by
  rintro rfl;rcases hp with hp | hp
  ·exact hn hp
  ·omega)).trans (h.block k hk hn)⟩
theorem Kp.nD(h:Below w.heap.size w w')(bad:Nat->Prop):Kp bad w w':=⟨h.os,h.tape,h.output,h.size,λk hk _=>h.block k hk⟩
theorem Kp.below(h:Kp bad w w')(hb:∀k,bad k->B<=k)(hB:B<=w.heap.size):Below B w w':=⟨h.os,h.tape,h.output,h.size,λk hk=>h.block k (by omega) (λx=>by have:=hb k x;omega)⟩
theorem Kp.grown{row:Option Nat}(h:Kp bad a w)(hg:w.grownBy w' row)(hr:∀g,row=some g->bad g\/a.heap.size<=g):Kp bad a w':=
 ⟨hg.os.trans h.os,hg.tape.trans h.tape,hg.output.trans h.output,YL h.size hg.size,λk hk hn=>(hg.block k (YK hk h.size) (λe=>by
  rcases hr k e.symm with x | x
  ·exact hn x
  ·omega)).trans (h.block k hk hn)⟩
theorem Kp.cell(h:Kp bad w w'){p:Addr}(hp:p.block<w.heap.size)(hn:¬bad p.block):w'.cell? p=w.cell? p:=Y8 (w:=w) (h.block p.block hp hn)
theorem Kp.frozen(h:Kp bad w w'){p:Addr}(hp:p.block<w.heap.size)(hn:¬bad p.block):w'.frozen? p=w.frozen? p:=World.frozen?_of_block (w:=w) (h.block p.block hp hn)
theorem lq.kp(h:lq w g t cs)(hk:Kp bad w w')(hn:¬bad g):lq w' g t cs:=(hk.block g h.lt hn).trans h
theorem xu{base:Nat}{e:TypeId}{size n:Nat}{v:Value}{xs:List Value}(h:w.ownsRow base e size v n xs)(hk:Kp bad w w')(hn:∀g,v.ownBlock=some g->¬bad g):w'.ownsRow base e size v n xs:=by
 obtain⟨h1,h2⟩:=h;refine⟨h1,?_⟩;rcases h2 with h2 | ⟨g,cap,cur,hv,hb,hh,hr⟩
 ·exact .inl h2
 ·have hl:g<w.heap.size:=(aAW.1 hh).1;exact .inr ⟨g,cap,cur,hv,hb,(hk.block g hl (hn g (by rw[hv];simp[Value.ownBlock]))).trans hh,hr⟩
theorem Reads.kp{B size n:Nat}{A:Option Addr}{xs:List Value}(h:Reads w B size A n xs)(hk:Kp bad w w')(hB:B<=w.heap.size)(hn:∀k,bad k->B<=k):Reads w' B size A n xs:=h.below (hk.below hn hB)
end
end
section
open Go.RowKit
theorem oV{B:Nat}{a w:World}(h:Below B a w)(n:Nat):Below B a (w.drewN n):=⟨h.os,h.tape,h.output,h.size,h.block⟩
theorem tN{P:Program}{w:World}{o:Oper}{a:Act}{t e:TypeId}{z:Value}{size bytes base n m:Nat}{v:Value}{xs:List Value}{ops:Array Oper}{rest:List Oper}{Q:Exit->Act->World->Prop}(tZ:o.guard=none)(s x:Operand) (ho:o.op= .call {callee:= .builtin .append,args:= #[s,x],argTypes:= #[t,t]}) (hE:El P t e z size bytes) (lV:w.ownsRow base e size v n xs) (rF:base<=w.heap.size) (hs:a.eval s=v) (news:List Value) {g:Nat} (hx:a.eval x= .slice g m m) (rL:g=w.heap.size) (hl:news.length=m*size) (h1:∀u∈news,u.oneCell'=true) (Bg:n+m<=4294967296) (zP:bytes<=32768) (h:∀A' c' w',w'.ownsRow base e size (.slice A' (n+m) c') (n+m) (xs++news)->(∀B w0,B<=base->Below B w0 w->Below B w0 w')->w.grownBy w' v.ownBlock-> ((Value.slice A' (n+m) c').ownBlock=v.ownBlock\/w.heap.size<=((Value.slice A' (n+m) c').ownBlock).getD w.heap.size)->wpList P ops Q rest (a.put o.dst (.slice A' (n+m) c')) w'): wpList P ops Q (o::rest) a (w.alloc (.cells news.toArray e)):=by subst rL;exact lM tZ s x ho hE lV rF hs news hx hl h1 Bg zP h
theorem oS{P:Program}{w:World}{o:Oper}{a:Act}{t e:TypeId}{z:Value}{size bytes base n m:Nat}{v:Value}{xs:List Value}{ops:Array Oper}{K:Act->World->Prop}{Q:Exit->Act->World->Prop}{E:Prop}(tZ:o.guard=none)(s x:Operand) (ho:o.op= .call {callee:= .builtin .append,args:= #[s,x],argTypes:= #[t,t]}) (hE:El P t e z size bytes) (lV:w.ownsRow base e size v n xs) (rF:base<=w.heap.size) (hs:a.eval s=v) (news:List Value) {g:Nat} (hx:a.eval x= .slice g m m) (rL:g=w.heap.size) (hl:news.length=m*size) (h1:∀u∈news,u.oneCell'=true) (Bg:n+m<=4294967296) (zP:bytes<=32768) (h:∀A' c' w',w'.ownsRow base e size (.slice A' (n+m) c') (n+m) (xs++news)->(∀B w0,B<=base->Below B w0 w->Below B w0 w')->w.grownBy w' v.ownBlock-> ((Value.slice A' (n+m) c').ownBlock=v.ownBlock\/w.heap.size<=((Value.slice A' (n+m) c').ownBlock).getD w.heap.size)->K (a.put o.dst (.slice A' (n+m) c')) w'): if Region.wanted o (yielded ops a.tmps)=true then Oper.wp P o a (w.alloc (.cells news.toArray e)) K Q else E:=by subst rL;exact AW tZ s x ho hE lV rF hs news hx hl h1 Bg zP h
theorem vv:El prog 51 3 (.int .i64 0) 1 8:=⟨underlying51,by kernel_rfl,rfl,by decide⟩
theorem PI:El prog 23 2 (.int .i64 0) 1 8:=⟨underlying23,by kernel_rfl,rfl,by decide⟩
end
section
open Go.RowKit
def ly(l:List Cn):List Value:=l.flatMap mP
theorem wV(l:List Cn):∀(k i:Nat) (hk:k<l.length),i<4->(ly l)[k*4+i]? =(mP l[k])[i]?:=by
 induction l with
 | nil=>intro k i hk;simp at hk
 | cons a t ih=>
  intro k i hk hi;have hc:ly (a::t)=mP a++ly t:=by simp[ly]
  have hl:(mP a).length=4:=rfl;rw[hc];rcases k with _ | k
  ·rw[YN (by omega)];simp
  ·rw[YQ (by omega),show(k+1)*4+i-(mP a).length=k*4+i by omega,ih k i (by simpa using hk) hi];simp
theorem Reads.cn{w:World}{B n k:Nat}{A:Option Addr}{l:List Cn}(h:Reads w B 4 A n (ly l))(hn:n=l.length)(hk:k<l.length): ∃ad:Addr,A=some ad/\ad.block<B/\w.cell? (ad.add (k*4))=some (.int .i64 l[k].least)/\w.cell? (ad.block,(ad.add (k*4)).off+1)=some (.int .i64 l[k].lC)/\w.cell? (ad.block,(ad.add (k*4)).off+2)=some (.int .i64 l[k].ol)/\ w.cell? (ad.block,(ad.add (k*4)).off+3)=some (.int .i64 l[k].og):=by
 obtain⟨ad,e,hb,hc⟩:=h.2 (by omega);have ha:∀i,i≠0->(⟨ad.block,(ad.add (k*4)).off+i,none⟩:Addr)=ad.add (k*4+i):=by intro i hi;rw[<-mJ,show∀p:Addr,p.add i=⟨p.block,p.off+i,none⟩from λp=>by unfold Addr.add;rw[YO hi],lp]
 have hg:∀i,i<4->∀u,(mP l[k])[i]? =some u->w.cell? (ad.add (k*4+i))=some u:=λi hi u hu=>hc _ u (by rw[wV l k i hk hi];exact hu);refine⟨ad,e,hb,hg 0 (by omega) _ rfl,?_,?_,?_⟩
 ·rw[ha 1 (by omega)];exact hg 1 (by omega) _ rfl
 ·rw[ha 2 (by omega)];exact hg 2 (by omega) _ rfl
 ·rw[ha 3 (by omega)];exact hg 3 (by omega) _ rfl
theorem yk:El prog 28 38 (.agg #[lx,lx,lx,lx]) 4 32:=⟨underlying28,by kernel_rfl,rfl,by decide⟩
def yS:Cn:=⟨0,0,0,0⟩
theorem qn(l:List Cn):(ly l).length=l.length*4:=by
 induction l with
 | nil=>rfl
 | cons a t ih=>
  have:ly (a::t)=mP a++ly t:=by simp[ly]
  rw[this,YM,ih,ZA];simp[mP];omega
theorem sH(a b:List Cn):ly (a++b)=ly a++ly b:=by simp[ly]
theorem At(l:List Cn):∀u∈ly l,u.oneCell'=true:=by intro u hu;unfold ly at hu;obtain⟨x,_,hx⟩:=List.mem_flatMap.1 hu;simp only[mP,Y7,ZD,DA]at hx;rcases hx with rfl | rfl | rfl | rfl<;>rfl
theorem xj(n:Nat):ly (List.replicate n yS)=List.replicate (n*4) (.int .i64 0):=by
 induction n with
 | zero=>rfl
 | succ n ih=>
  have:ly (List.replicate (n+1) yS)=mP yS++ly (List.replicate n yS):=by simp[ly,aBW]
  rw[this,ih,show(n+1)*4=n*4+1+1+1+1 by omega,aBW,aBW,aBW,aBW];rfl
theorem Wv(n:Nat):madeCells (Value.agg #[lx,lx,lx,lx]).cells (n*4)=(ly (List.replicate n yS)).toArray:=by
 rw[xj];apply Array.ext
 ·rw[aBA];simp
 ·intro i h1 h2;have h4:i % 4<4:=Nat.mod_lt _ (by omega);have e:(madeCells (Value.agg #[lx,lx,lx,lx]).cells (n*4))[i]=(#[Value.int .i64 0,Value.int .i64 0,Value.int .i64 0,Value.int .i64 0]:Array Value)[i % 4]! :=by simp only[madeCells,aCB,aBX];rfl
  rw[e];have:i % 4=0\/i % 4=1\/i % 4=2\/i % 4=3:=by omega
  rcases this with h | h | h | h<;>rw[h]<;>simp
theorem AT(n:Nat)(hn:n<=1000000)(w:World):(Instr.makeSlice 28 (.int .i64 (n:Int)) (.int .i64 (n:Int))).run prog w= .ok (.slice w.heap.size n n) (w.alloc (.cells (ly (List.replicate n yS)).toArray 38)):=by obtain⟨i,hi,hz,hs,hb⟩:=Nr yk.info;have h:=S9 (P:=prog) (w:=w) 28 38 i (.agg #[lx,lx,lx,lx]) yk.ht hi hz .i64 .i64 (n:Int) (n:Int) (by omega) (by omega) (by rw[hs];omega) (by rw[hb];omega) (by omega);rw[h,hs,ZM,Wv]
theorem zV(got:List Cn)(n:Nat):(qe got n).length=n:=by unfold qe;simp
theorem AX(got:List Cn)(n:Nat):qe got n=got.take n++List.replicate (n-got.length) yS:=by
 apply aCH
 ·rw[zV,YM,ZW,aCE];omega
 ·intro i h1 h2;rw[zV]at h1;have e:(qe got n)[i]=qy got i:=by simp only[qe,aCG,List.getElem_range]
  rw[e];by_cases h3:i<got.length
  ·rw[aBE (by rw[ZW];omega),List.getElem_take];simp[qy,h3]
  ·rw[aBV (by rw[ZW];omega),aCC];simp[qy,h3,yS]
theorem Ua{got:List Cn}{n:Nat}{x:Cn}(h:x∈qe got n):x∈got\/x=yS:=by
 rw[AX]at h;rcases YW.1 h with h | h
 ·exact .inl (aA3 h)
 ·exact .inr (aBY h)
section
variable{P:Program}
theorem ye(w:World)(dT sT ty elem:TypeId)(z g aaF dCap:Nat)(a:Addr)(Zg ME:Nat)(cur:Array Value)(t:TypeId)(cs:List Value) (hu:P.underlying dT=some (.slice elem)) (hs:(P.info? elem).map (·.size)=some z) (hg:w.heap[g]? =some (.cells cur t (0,0))) (hn:cs.length=Nat.min Zg aaF*z) (hsrc:∀j v,cs[j]? =some v->w.cell? (a.add j)=some v) (hfit:cs.length<=cur.size) (h1:∀v∈cs,v.oneCell'=true): (Builtin.copy_ #[dT,sT] ty #[.slice g aaF dCap,.slice (some a) Zg ME]).run P w= .ok (goInt (Nat.min Zg aaF)) (w.setRow g (cs++cur.toList.drop cs.length).toArray):=by
 have hl:=run_loadCells_list (P:=P) w a cs hsrc;have Fg:=run_storeCells_at P g 0 t cs 0 cur w hg (by simpa using hfit) h1;simp at Fg;rw[hn]at hl;cases hq:P.info? elem with
 | none=>simp[hq]at hs
 | some i=>
  have hi:i.size=z:=by simpa[hq]using hs
  have J1:(loadCells a (min Zg aaF*z)).run P w= .ok cs.toArray w:=hl;simp[Builtin.copy_,aBF hu,Builtin.lenOf,Builtin.firstCells,sizeOf,typeInfo,hq,hi,J1,Fg]
theorem Jd(w:World)(dT sT ty elem:TypeId)(hu:P.underlying dT=some (.slice elem))(tH:(P.info? elem).map (·.size)=some 4)(n:Nat){B:Nat}{A:Option Addr}(ME:Nat)(got:List Cn)(t:TypeId) (hr:Reads w B 4 A got.length (ly got)) (hB:B<=w.heap.size): ∃v,(Builtin.copy_ #[dT,sT] ty #[.slice w.heap.size n n,.slice A got.length ME]).run P (w.alloc (.cells (ly (List.replicate n yS)).toArray t))= .ok v (w.alloc (.cells (ly (qe got n)).toArray t)):=by
 rcases A with _ | ad
 ·have h0:got.length=0:=by
   rcases aAN got.length with h | h
   ·exact h
   ·obtain⟨_,e,_⟩:=hr.2 h;cases e
  have hg0:got=[]:=aBI h0;subst hg0;have e:qe [] n=List.replicate n yS:=by rw[AX];simp
  rw[e];cases hq:P.info? elem with
  | none=>simp[hq]at tH
  | some i=>exact⟨_,by simp[Builtin.copy_,aBF hu,Builtin.lenOf,Builtin.firstCells,sizeOf,typeInfo,hq,storeCells];rfl⟩
 ·have oR:(ly (got.take n)).length=Nat.min got.length n*4:=by rw[qn,ZW,Nat.min_comm]
  have rC:=ye (P:=P) (w.alloc (.cells (ly (List.replicate n yS)).toArray t)) dT sT ty elem 4 w.heap.size n n ad got.length ME (ly (List.replicate n yS)).toArray t (ly (got.take n)) hu tH (aCW w _) oR
   (by
    intro j v hv;have h4:=hr.1;have hj:(ly got)[j]? =some v:=(by have:ly got=ly (got.take n)++ly (got.drop n):=(by rw[<-sH,ZL]);rw[this,YN (YT.1 hv).1];exact hv);have FU:=(YT.1 hj).1;obtain⟨Rv,e,hb,hc⟩:=hr.2 (by rw[qn]at FU;omega);injection e with e;subst e
    rw[ZV _ _ _ (by rw[lp];omega)];exact hc j v hj)
   (by rw[oR,Z1,qn,aCE];exact aBP 4 (Nat.min_le_right _ _)) (At _)
  refine⟨goInt (Nat.min got.length n),rC.trans ?_⟩;rw[World.setRow_alloc_new];congr 4;rw[AX,sH,xj,xj];simp only[List.drop_replicate];congr 2;rw[oR];have:Nat.min got.length n=min got.length n:=rfl;rw[this];omega
end
end
section
def nB(l:List Nd)(i:Nat):Int:=match l[i]? with
 | some x=>if 0<=x.parent/\x.parent<i then x.parent else -1
 | none=> -1
theorem qg(l:List Nd)(i:Nat): -1<=nB l i/\(nB l i<i):=by
 unfold nB
 split
 ·split<;>omega
 ·omega
def chain(l:List Nd):Nat->Nat->List Int
 | 0,_=>[]
 | n+1,i=>if nB l i<0 then []else nB l i::chain l n (nB l i).toNat
theorem N3(l:List Nd):∀(n m i:Nat),i<n->i<m->chain l n i=chain l m i:=by
 intro n;induction n with
 | zero=>intro m i h;omega
 | succ n ih=>
  intro m i h1 h2;cases m with
  | zero=>omega
  | succ m=>
   have:=qg l i;simp only[chain]
   split
   ·rfl
   ·rw[ih m (nB l i).toNat (by omega) (by omega)]
def EZ(l:List Nd)(i:Nat):List Int:=chain l (i+1) i
theorem KX{l:List Nd}{i:Nat}(h:nB l i<0):EZ l i=[]:=by unfold EZ chain;rw[YP h]
theorem DF{l:List Nd}{i p:Nat}(h:nB l i=p):EZ l i=(p:Int)::EZ l p:=by have:=qg l i;unfold EZ;rw[chain,YO (by omega),h,ZM,N3 l i (p+1) p (by omega) (by omega)]
def oF(l:List Nd)(p:Nat):List Int:=((List.range l.length).filter λk=>nB l k == (p:Int)).map Int.ofNat
theorem tu{l:List Nd}{p:Nat}{k:Int}(h:k∈oF l p):∃n:Nat,k=n/\n<l.length/\nB l n=p/\p<n:=by
 unfold oF at h;rw[Z7]at h;obtain⟨n,h1,rfl⟩:=h;rw[ZI,ZK]at h1;have h2:nB l n=p:=by simpa using h1.2
 have:=qg l n;exact⟨n,rfl,h1.1,h2,by omega⟩
end
end Go.Proofs.YtjhingednpjogaaGreat
