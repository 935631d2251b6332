/- Lemmas for ValidRoom; laid together by a program. -/
import Derived.Test.YtjhingednpjogaaGreatFb
import Derived.Deep.CutRange
import Derived.Test.YtjhingednpjogaaGreatTk
import Derived.Shelf.Spec.BitsCarry
import Derived.Deep.RegionLaw
import Derived.Lib.ItoaNum
set_option linter.all false
set_option maxRecDepth 100000
set_option maxHeartbeats 1000000
open Go.RowKit
namespace Go.Proofs.YtjhingednpjogaaGreat
open Go.Proofs.Tryz
section
attribute [local go_sem] lp
def ofS(s:Stt)(x:Int):Stt:=⟨if s.most<x then x else s.most,if x<s.least then x else s.least⟩
def ofF(l:List Int):Stt:=l.foldl ofS ⟨0,0⟩
theorem Ub(l:List Int)(A:Option Addr)(c:Nat)(w:World)(hn:l.length<=1000)(hr:Reads w w.heap.size 1 A l.length (l.map (Value.int .i64))): Calls prog 253 #[.slice A l.length c] w λe w'=>e= .returned (.agg #[.int .i64 (ofF l).most,.int .i64 (ofF l).least])/\Below w.heap.size w w':=by
 have HR:=X6 hr;have HN:=X6 hn;clear hr hn;go_enter func253,ntmps253;go_wp2_with fail;go_loopw [4] (λq wr=>∃j:Nat,j<=l.length/\q= .int .i64 (j:Int)/\Hid (lq wr w.heap.size 114 #[lx,lx]/\lq wr (w.heap.size+1) 114 #[.int .i64 ((l.take j).foldl ofS ⟨0,0⟩).most,.int .i64 ((l.take j).foldl ofS ⟨0,0⟩).least]/\Below w.heap.size w wr)) (λq _=>l.length-(intOf q).toNat);case atStart=>exact⟨0,by omega,rfl,X6 ⟨(lq.new _ _ _).alloc _,lq.at_ _ _ _ (by simp),bA.alloc (by simp) _⟩⟩
 case round=>
  obtain⟨j,hj,rfl,HJ⟩:=hrel;by_cases lN:j<l.length
  ·have d0:decide ((j:Int)<(l.length:Int))=true:=YC (by omega);have pJ:decide (j<l.length)=true:=YC lN;have C2:IntKind.i64.wrap ((j:Int)+1)=(j:Int)+1:=YG _ ⟨by omega,by have:=HN.out;omega⟩;obtain⟨ad,u,hA,hb,hu,hc⟩:=(HR.below HJ.2.2).at_ lN;have hu2:u= .int .i64 l[j]:=(by rw[aAT,YH lN]at hu;simpa using hu.symm);subst hu2;subst hA;have HF:=X6 (Ci ofS ⟨0,0⟩ l j lN);obtain⟨s,HS⟩:∃s,Hid (s=(l.take j).foldl ofS ⟨0,0⟩):=⟨_,X6 rfl⟩;rw[<-HS.out]at HF HJ;obtain⟨a,b⟩:=s;obtain⟨v,hv⟩:∃v,l[j]=v:=⟨_,rfl⟩;rw[hv]at hc HF;obtain⟨b0,b1⟩:=HJ.2.1.c2;have bf:=HJ.2.1.frozen;have hj2:(j:Int)<(l.length:Int):=(by omega);have Cx:ad.block<wr.heap.size:=YK hb HJ.2.2.size;have hne1:¬ad.block=w.heap.size+1:=(by omega);have hne2:¬w.heap.size+1=ad.block:=(by omega);clear hu hv;have HC:Hid (∀W',Below w.heap.size w W'->W'.cell? (ad.add j)=v):=X6 (λW' hb'=>by have h1:=hb'.cell (p:=ad.add j) (by rw[lp];exact hb);have h2:=HJ.2.2.cell (p:=ad.add j) (by rw[lp];exact hb);rw[h1,<-h2];exact hc);have Fy:Hid (ad.block<w.heap.size):=X6 hb;cases e1:decide (a<v)
   ·go_wp2_with fail;go_quiet (fail);obtain⟨w2,ph⟩:∃w2,w2=wr.drewN nq:=⟨_,rfl⟩;have H2:Hid (lq w2 w.heap.size 114 #[lx,lx]/\lq w2 (w.heap.size+1) 114 #[a,b]/\Below w.heap.size w w2):=X6 (by rw[ph];exact⟨HJ.1.drewN _,HJ.2.1.drewN _,oV HJ.2.2 _⟩);rw[<-ph];clear ph hc b0 b1 bf Cx;have hc:=HC.out w2 H2.2.2;obtain⟨b0,b1⟩:=H2.2.1.c2;have bf:=H2.2.1.frozen;have Cx:ad.block<w2.heap.size:=YK Fy.out H2.2.2.size;cases e2:decide (v<b);all_goals
     go_wp2_with fail;go_quiet (fail);go_wp2_with fail;go_roundw;case rel=>refine⟨j+1,by omega,by go_num,X6 ?_⟩;rw[HF.out];simp only[ZU,aA6]at e1 e2;simp only[ofS,e1,e2,Z4,BT];first | exact⟨H2.1.drewN _,H2.2.1.drewN _,oV H2.2.2 _⟩ | exact⟨(H2.1.drewN _).lQ (by simp) _,(H2.2.1.drewN _).lA 1 _,(oV H2.2.2 _).setCell (p:=(w.heap.size+1,1)) (by simp) _⟩
     case measure=>simp[intOf];omega
   ·go_wp2_with fail;go_quiet (fail);go_upto_region 7 with(fail)
    obtain⟨w2,ph⟩:∃w2,w2=(wr.drewN nq).setCell (w.heap.size+1,0) v:=⟨_,rfl⟩;have H2:Hid (lq w2 w.heap.size 114 #[lx,lx]/\lq w2 (w.heap.size+1) 114 #[v,b]/\Below w.heap.size w w2):=X6 (by rw[ph];exact⟨(HJ.1.drewN _).lQ (by simp) _,(HJ.2.1.drewN _).lA 0 _,(oV HJ.2.2 _).setCell (p:=(w.heap.size+1,0)) (by simp) _⟩);try rw[show(wr.setCell (w.heap.size+1,0) v).drewN nq=w2 from ph.symm]
    try rw[<-ph]
    clear ph hc b0 b1 bf Cx;have hc:=HC.out w2 H2.2.2;obtain⟨b0,b1⟩:=H2.2.1.c2;have bf:=H2.2.1.frozen;have Cx:ad.block<w2.heap.size:=YK Fy.out H2.2.2.size;cases e2:decide (v<b);all_goals
     go_wp2_with fail;go_quiet (fail);go_wp2_with fail;go_roundw;case rel=>refine⟨j+1,by omega,by go_num,X6 ?_⟩;rw[HF.out];simp only[ZU,aA6]at e1 e2;simp only[ofS,e1,e2,Z4,BT];first | exact⟨H2.1.drewN _,H2.2.1.drewN _,oV H2.2.2 _⟩ | exact⟨(H2.1.drewN _).lQ (by simp) _,(H2.2.1.drewN _).lA 1 _,(oV H2.2.2 _).setCell (p:=(w.heap.size+1,1)) (by simp) _⟩
     case measure=>simp[intOf];omega
  ·have d0:decide ((j:Int)<(l.length:Int))=false:=X9 (by omega);have pJ:decide (j<l.length)=false:=X9 lN;have HK:=X6 (show j=l.length by omega);obtain⟨s,hs⟩:∃s,s=(l.take j).foldl ofS ⟨0,0⟩:=⟨_,rfl⟩;rw[<-hs]at HJ;have HSS:Hid (s=ofF l):=X6 (by rw[hs,HK.out,ZZ];rfl);clear hs;obtain⟨b0,b1⟩:=HJ.2.1.c2;obtain⟨a0,a1⟩:=HJ.1.c2;have af:=HJ.1.frozen;go_wp2_with fail;refine ZQ (Z2 rfl _ _ w.heap.size 114 #[_,_] (0,0) _ rfl ((HJ.1.lA 0 s.most).lA 1 s.least) underlying114 rfl (by kernel_rfl)) rfl ⟨by rw[<-HSS.out],?_⟩;exact(HJ.2.2.setCell (p:=(w.heap.size,0)) (X7 _) _).setCell (p:=(w.heap.size,1)) (X7 _) _
end
section
def ow(p:Nat->Int×Int×Int)(m:Nat):List Value:=(List.range m).flatMap λi=>[.int .i64 (p i).1,.int .i64 (p i).2.1,.int .i64 (p i).2.2]
theorem xK(p:Nat->Int×Int×Int)(m:Nat):ow p (m+1)=ow p m++[.int .i64 (p m).1,.int .i64 (p m).2.1,.int .i64 (p m).2.2]:=by simp[ow,Xb]
theorem qC(p:Nat->Int×Int×Int):∀m,(ow p m).length=m*3
 | 0=>rfl
 | m+1=>by rw[xK,YM,qC p m];simp;omega
theorem rR(p:Nat->Int×Int×Int){i r:Nat}(hr:r<3):∀{m:Nat},i<m->(ow p m)[i*3+r]? =[Value.int .i64 (p i).1,.int .i64 (p i).2.1,.int .i64 (p i).2.2][r]?
 | 0,h=>by omega
 | m+1,h=>by
  rw[xK];by_cases e:i=m
  ·subst e;rw[YQ (by rw[qC];omega),qC,show i*3+r-i*3=r by omega]
  ·rw[YN (by rw[qC];omega)];exact rR p hr (by omega)
theorem CK(p:Nat->Int×Int×Int){i m:Nat}(h:i<m):(ow p m).toArray[i*3]? =some (.int .i64 (p i).1):=by rw[YR];exact rR p (r:=0) (by omega) h
theorem CW(p:Nat->Int×Int×Int){i m:Nat}(h:i<m):(ow p m).toArray[i*3+1]? =some (.int .i64 (p i).2.1):=by rw[YR];exact rR p (r:=1) (by omega) h
theorem C1(p:Nat->Int×Int×Int){i m:Nat}(h:i<m):(ow p m).toArray[i*3+2]? =some (.int .i64 (p i).2.2):=by rw[YR];exact rR p (r:=2) (by omega) h
def Rt(p:Nat->Int×Int×Int)(i:Nat)(z:Int×Int×Int):Nat->Int×Int×Int:=λj=>if j=i then z else p j
theorem Lf(p:Nat->Int×Int×Int)(m i:Nat)(a b c:Int)(h:i<m):(((ow p m).toArray.setIfInBounds (i*3) (.int .i64 a)).setIfInBounds (i*3+1) (.int .i64 b)).setIfInBounds (i*3+2) (.int .i64 c)=(ow (Rt p i (a,b,c)) m).toArray:=by
 apply aBB;intro x;simp only[aAM,Array.size_setIfInBounds,Z1,qC,YR];by_cases hx:x<m*3
 ·obtain⟨j,r,hr,rfl⟩:∃j r,r<3/\x=j*3+r:=⟨x / 3,x % 3,by omega,by omega⟩;have hj:j<m:=by omega
  rw[rR _ hr hj,rR _ hr hj];unfold Rt;by_cases e:j=i
  ·subst e;rcases(show r=0\/r=1\/r=2 by omega)with rfl | rfl | rfl
   ·rw[YO (by omega),YO (by omega),YP (by omega),YP (by omega),YP rfl];rfl
   ·rw[YO (by omega),YP (by omega),YP (by omega),YP rfl];rfl
   ·rw[YP (by omega),YP (by omega),YP rfl];rfl
  ·rw[YO (by omega),YO (by omega),YO (by omega),YO e]
 ·rw[YO (by omega),YO (by omega),YO (by omega),ZG (by rw[qC];omega),ZG (by rw[qC];omega)]
def oH(p:Nat->Bool)(m:Nat):List Value:=(List.range m).map λi=> .bool (p i)
theorem Ek(p:Nat->Bool)(m:Nat):(oH p m).length=m:=by simp[oH]
theorem xL(p:Nat->Bool){i m:Nat}(h:i<m):(oH p m)[i]? =some (.bool (p i)):=by simp[oH,h]
theorem Wy(p:Nat->Bool)(m i:Nat)(b:Bool)(h:i<m):(oH p m).toArray.setIfInBounds i (.bool b)=(oH (λj=>if j=i then b else p j) m).toArray:=by
 apply aBB;intro x;simp only[aAM,Z1,Ek,YR];by_cases hx:x<m
 ·rw[xL _ hx,xL _ hx];by_cases e:x=i
  ·subst e;rw[YP rfl,YP hx,YP rfl]
  ·rw[YO (by omega),YO e]
 ·rw[YO (by omega),ZG (by rw[Ek];omega),ZG (by rw[Ek];omega)]
theorem vt:El prog 29 40 (.agg #[lx,lx,lx]) 3 24:=⟨underlying29,by kernel_rfl,rfl,by decide⟩
theorem By:El prog 53 4 (.bool false) 1 1:=⟨underlying53,by kernel_rfl,rfl,by decide⟩
theorem Em(n:Nat)(hn:n<=1000000)(w:World):(Instr.makeSlice 29 (.int .i64 (n:Int)) (.int .i64 (n:Int))).run prog w= .ok (.slice w.heap.size n n) (w.alloc (.cells (ow (λ_=>(0,0,0)) n).toArray 40)):=by
 obtain⟨i,hi,hz,hs,hb⟩:=Nr vt.info;have h:=S9 (P:=prog) (w:=w) 29 40 i (.agg #[lx,lx,lx]) vt.ht hi hz .i64 .i64 (n:Int) (n:Int) (by omega) (by omega) (by rw[hs];omega) (by rw[hb];omega) (by omega);have hm:madeCells (Value.agg #[lx,lx,lx]).cells (n*3)=(ow (λ_=>(0,0,0)) n).toArray:=by
  apply aBB;intro x;by_cases hx:x<n*3
  ·obtain⟨j,r,hr,rfl⟩:∃j r,r<3/\x=j*3+r:=⟨x / 3,x % 3,by omega,by omega⟩;have hj:j<n:=(by omega);have e:(madeCells (Value.agg #[lx,lx,lx]).cells (n*3))[j*3+r]? =some ((#[Value.int .i64 0,Value.int .i64 0,Value.int .i64 0]:Array Value)[(j*3+r) % 3]!):=(by rw[Z5 (by rw[aBA];exact hx)];simp only[madeCells,aCB,aBX];rfl);rw[e,YR,rR _ hr hj];rcases(show r=0\/r=1\/r=2 by omega)with rfl | rfl | rfl
   ·rw[show(j*3+0) % 3=0 by omega];rfl
   ·rw[show(j*3+1) % 3=1 by omega];rfl
   ·rw[show(j*3+2) % 3=2 by omega];rfl
  ·rw[ZC (by rw[aBA];omega),YR,ZG (by rw[qC];omega)]
 rw[h,hs,ZM,hm]
theorem Oa(n:Nat)(hn:n<=1000000)(w:World):(Instr.makeSlice 53 (.int .i64 (n:Int)) (.int .i64 (n:Int))).run prog w= .ok (.slice w.heap.size n n) (w.alloc (.cells (oH (λ_=>false) n).toArray 4)):=by
 obtain⟨i,hi,hz,hs,hb⟩:=Nr By.info;have h:=S9 (P:=prog) (w:=w) 53 4 i (.bool false) By.ht hi hz .i64 .i64 (n:Int) (n:Int) (by omega) (by omega) (by rw[hs];omega) (by rw[hb];omega) (by omega);have hm:madeCells (Value.bool false).cells (n*1)=(oH (λ_=>false) n).toArray:=by apply aAZ.1;show(madeCells #[.bool false] (n*1)).toList=_;rw[aB2,aA2];apply aCH<;>simp[oH]
 rw[h,hs,ZM,hm]
def yG(cs:Array Value):Nat->List Value->Array Value
 | _,[]=>cs
 | o,v::r=>yG (cs.setIfInBounds o v) (o+1) r
theorem lq.setCells{g:Nat}{t:TypeId}:∀(vs:List Value) (o:Nat) (w:World) (cs:Array Value),lq w g t cs->lq (w.setCells g o vs) g t (yG cs o vs)
 | [],_,_,_,h=>h
 | v::r,o,w,cs,h=>lq.setCells r (o+1) _ _ (h.lA o v)
theorem mQ{B g:Nat}(hB:B<=g):∀(vs:List Value) (o:Nat) (a w:World),Below B a w->Below B a (w.setCells g o vs)
 | [],_,_,_,h=>h
 | v::r,o,a,w,h=>mQ hB r (o+1) a _ (h.setCell (p:=⟨g,o,none⟩) hB v)
theorem yV:∀(vs b a c:List Value),b.length=vs.length->yG (a++b++c).toArray a.length vs=(a++vs++c).toArray
 | [],b,a,c,h=>by have:b=[]:=aAO.1 h;subst this;rfl
 | v::r,[],a,c,h=>by simp at h
 | v::r,u::b,a,c,h=>by
  have e:(a++u::b++c).toArray.setIfInBounds a.length v=((a++[v])++b++c).toArray:=by simp[X8]
  have h2:=yV r b (a++[v]) c (by simpa using h);show yG ((a++u::b++c).toArray.setIfInBounds a.length v) (a.length+1) r=_;rw[e];have e3:(a++[v]).length=a.length+1:=by simp
  rw[e3]at h2;rw[h2];simp
section
variable{g:Nat}{v:Value}
theorem AB{base:Nat}{e:TypeId}{size k:Nat}{xs:List Value}(hv:v.ownBlock≠some g):∀(vs:List Value) (o:Nat) (W:World),W.ownsRow base e size v k xs->(W.setCells g o vs).ownsRow base e size v k xs
 | [],_,_,h=>h
 | u::r,o,W,h=>AB hv r (o+1) _ (ZP h (a:=⟨g,o,none⟩) hv u)
theorem yh:∀(vs:List Value) (o:Nat) (W:World),(W.setCells g o vs).heap.size=W.heap.size
 | [],_,_=>rfl
 | u::r,o,W=>by show((W.setCell (g,o) u).setCells g (o+1) r).heap.size=_;rw[yh r (o+1)];simp[World.setCell]
end
theorem mK{P:Program}{ops:Array Oper}{S:World->Prop}{op:Oper}{a:Act}(hw:Region.wanted op (yielded ops a.tmps)=true)(ty:TypeId)(x:Operand)(ho:op.op= .load ty x)(p:Addr)(hx:a.eval x= .pointer (some p))(cs:List Value)(d:TypeDesc) (hS:∀w,S w->∀j v,cs[j]? =some v->w.cell? (p.add j)=some v) (hu:P.underlying ty=some d) (hd:d.isRow=true) (hi:(P.info? ty).map (·.size)=some cs.length):YieldsIf P ops S op (.agg cs.toArray) a:=
 .inl ⟨hw,λw hw'=>by unfold execOp;simp only[ho,hx,PZ,Cg w p ty cs d (hS w hw') hu hd hi,Yd,Yk]⟩
end
section
attribute [local go_sem] lp
def mj(l:Ln)(c:Int):Int×Bool:=if l.k=2 then(c*l.n / 10000,true)else if l.k=1 then(l.n,true)else(0,false)
def lF(s:me)(c w:Int):Int:=
 let m:=if(mj s.mz c).2 then min w (mj s.mz c).1 else w
 let l:=if(mj s.my c).2 then max m (mj s.my c).1 else m
 max l 0
structure vz(l:Ln):Prop where
 b: -1099511627776<=l.n/\l.n<=1099511627776
 p:l.k=2->-100000<=l.n/\l.n<=100000
structure CB(c:Int):Prop where
 b:0<=c/\c<=1099511627776
theorem nP{l:Ln}{c:Int}(h:vz l)(hc:CB c): -10995116277760<=(mj l c).1/\(mj l c).1<=10995116277760:=by
 have hb:=h.b;have vk:=hc.b;unfold mj
 split
 ·rename_i hk;have hp:=h.p hk;have h1:c*l.n<=1099511627776*100000:=by
   rcases Int.le_total 0 l.n with h0 | h0
   ·exact Int.mul_le_mul vk.2 hp.2 h0 (by decide)
   ·exact aDA (Int.mul_nonpos_of_nonneg_of_nonpos vk.1 h0) (by decide)
  have h2: -(1099511627776*100000)<=c*l.n:=by
   rcases Int.le_total 0 l.n with h0 | h0
   ·exact aDA (by decide) (aB7 vk.1 h0)
   ·have:=Int.mul_le_mul vk.2 (show -l.n<=100000 by omega) (by omega) (by decide);rw[Int.mul_neg]at this;omega
  show -10995116277760<=c*l.n / 10000/\c*l.n / 10000<=10995116277760;omega
 ·split
  ·show -10995116277760<=l.n/\l.n<=10995116277760;omega
  ·show -10995116277760<=(0:Int)/\(0:Int)<=10995116277760;omega
theorem Ou(q r n Q R:Int)(hQ:Q=q*n)(hR:R=r*n):(10000*q+r)*n / 10000=Q+R / 10000:=by rw[aCL,aDL,<-hQ,<-hR];omega
theorem T7(R:Int)(h:0<=R):R.tdiv 10000=R / 10000/\R.tmod 10000=R % 10000:=⟨aAV h,aAU h⟩
theorem RM(R:Int)(h:R<0):R.tdiv 10000= -((-R) / 10000)/\R.tmod 10000= -((-R) % 10000):=by obtain⟨m,rfl⟩:∃m,R= -m:=⟨-R,by omega⟩;rw[Int.neg_tdiv,Int.neg_tmod,Int.neg_neg,aAV (by omega),aAU (by omega)];exact⟨rfl,rfl⟩
theorem Gq(R T M:Int)(hT:R.tdiv 10000=T)(hM:R.tmod 10000=M):(-20000<=M/\M<=20000/\(0<=R->0<=T/\T<=R)/\(R<0->R<=T/\T<=0))/\(M<0->T-1=R / 10000)/\(¬M<0->T=R / 10000):=by
 rcases Int.lt_or_le R 0 with h | h
 ·obtain⟨t1,t2⟩:=RM R h;omega
 ·obtain⟨t1,t2⟩:=T7 R h;omega
theorem Ia(r n:Int)(hr:0<=r/\r<=110000000)(hn: -100000<=n/\n<=100000): -11000000000000<=r*n/\r*n<=11000000000000:=by
 have h1:(r*n).natAbs<=110000000*100000:=by rw[Int.natAbs_mul];exact aB6 (by omega) (by omega)
 omega
theorem WL(c n:Int)(w:World)(hc:CB c)(hn: -100000<=n/\n<=100000): Calls prog 202 #[.int .i64 c,.int .i64 n] w λe w'=>e= .returned (.int .i64 (c*n / 10000))/\w=w':=by
 have vk:=hc.b;obtain⟨q,hq⟩:∃q,q=c.tdiv 10000:=⟨_,rfl⟩;obtain⟨r,hr⟩:∃r,r=c.tmod 10000:=⟨_,rfl⟩;have QF:q=c / 10000:=by rw[hq,aAV vk.1]
 have L6:r=c % 10000:=by rw[hr,aAU vk.1]
 obtain⟨Q,hQ⟩:∃Q,Q=q*n:=⟨_,rfl⟩;obtain⟨R,hR⟩:∃R,R=r*n:=⟨_,rfl⟩;have bQ:=Ia q n (by omega) hn;have bR:=Ia r n (by omega) hn;rw[<-hQ]at bQ;rw[<-hR]at bR;have E:=Ou q r n Q R hQ hR;rw[show 10000*q+r=c by omega]at E;have HE:=X6 E;have w1:IntKind.i64.wrap (r*n)=R:=by rw[<-hR];exact YG _ ⟨by omega,by omega⟩
 have w2:IntKind.i64.wrap (q*n)=Q:=by rw[<-hQ];exact YG _ ⟨by omega,by omega⟩
 have hq':=hq.symm;have hr':=hr.symm;have bq:0<=q/\q<=110000000:=by omega
 have br:0<=r/\r<=10000:=by omega
 clear hq hr QF L6 hQ hR E vk hc hn;obtain⟨T,hT⟩:∃T,R.tdiv 10000=T:=⟨_,rfl⟩;obtain⟨M,hM⟩:∃M,R.tmod 10000=M:=⟨_,rfl⟩;obtain⟨f1,f2,f3⟩:=Gq R T M hT hM;have wT:IntKind.i64.wrap T=T:=YG _ ⟨by omega,by omega⟩;have wM:IntKind.i64.wrap M=M:=YG _ ⟨by omega,by omega⟩;have wq:IntKind.i64.wrap q=q:=YG _ ⟨by omega,by omega⟩;have wr:IntKind.i64.wrap r=r:=YG _ ⟨by omega,by omega⟩;have w3:IntKind.i64.wrap (Q+T)=Q+T:=YG _ ⟨by omega,by omega⟩;have w4:IntKind.i64.wrap (Q+T-1)=Q+T-1:=YG _ ⟨by omega,by omega⟩;cases e1:decide (M<0)
 ·have F:Hid (Q+T=Q+R / 10000):=X6 (by have:=f3 (YS e1);omega);clear f1 f2 f3 bQ bR bq br;go_enter func202,ntmps202;go_wp2_with fail;go_ret;exact⟨by rw[HE.out,<-F.out];rfl,rfl⟩
 ·have F:Hid (Q+T-1=Q+R / 10000):=X6 (by have:=f2 (YZ e1);omega);clear f1 f2 f3 bQ bR bq br;go_enter func202,ntmps202;go_wp2_with fail;go_ret;exact⟨by rw[HE.out,<-F.out];rfl,rfl⟩
theorem xc(k n c:Int)(w:World)(hl:vz ⟨k,n⟩)(hc:CB c): Calls prog 152 #[.agg #[.int .u8 k,n],.int .i64 c] w λe w'=>e= .returned (.tuple #[.int .i64 (mj ⟨k,n⟩ c).1,.bool (mj ⟨k,n⟩ c).2])/\w.alloc (.cells #[.int .u8 k,n] 58)=w':=by
 have hmx:max c 0=c:=by have:=hc.b;omega
 have Pk:decide (c<0)=false:=X9 (by have:=hc.b;omega);have hm3:(if 0<=c then c else 0)=c:=YP hc.b.1;by_cases h2:k=2
 ·have e2:(k == 2)=true:=ZR.2 h2;have e1:(k == 1)=false:=by subst h2;rfl
  have HE:Hid (mj ⟨k,n⟩ c=(c*n / 10000,true)):=X6 (YP h2);have HP:=X6 (hl.p h2);have HC:=X6 hc;clear h2 hl hc;go_enter func152,ntmps152;go_wp2_with (go_at_call 202;refine(WL c n _ HC.out HP.out).mono ?_;rintro e w' ⟨rfl,rfl⟩);go_ret2;rw[HE.out];exact⟨rfl,rfl⟩
 ·have e2:(k == 2)=false:=ZO.2 h2;by_cases h1:k=1
  ·have e1:(k == 1)=true:=ZR.2 h1;have HE:Hid (mj ⟨k,n⟩ c=(n,true)):=X6 (by unfold mj;rw[YO h2,YP h1]);clear h2 h1 hl hc;go_enter func152,ntmps152;go_wp2_with fail;go_ret2;rw[HE.out];exact⟨rfl,rfl⟩
  ·have e1:(k == 1)=false:=ZO.2 h1;have HE:Hid (mj ⟨k,n⟩ c=(0,false)):=X6 (by unfold mj;rw[YO h2,YO h1]);clear h2 h1 hl hc;go_enter func152,ntmps152;go_wp2_with fail;go_ret2;rw[HE.out];exact⟨rfl,rfl⟩
theorem RG(s:me)(c v:Int)(w:World)(h1:vz s.mz)(h2:vz s.my)(hc:CB c): Calls prog 197 #[.agg (lj s).toArray,.int .i64 c,.int .i64 v] w λe w'=>e= .returned (.int .i64 (lF s c v))/\((w.alloc (.cells (lj s).toArray 63)).alloc (.cells #[.int .u8 s.mz.k,s.mz.n] 58)).alloc (.cells #[.int .u8 s.my.k,s.my.n] 58)=w':=by
 have y8:(lj s)[8]'(by rw[lL];omega)= .int .u8 s.my.k:=rfl;have y9:(lj s)[9]'(by rw[lL];omega)= .int .i64 s.my.n:=rfl;have y10:(lj s)[10]'(by rw[lL];omega)= .int .u8 s.mz.k:=rfl;have y11:(lj s)[11]'(by rw[lL];omega)= .int .i64 s.mz.n:=rfl;have z:=qD s;have R1:=X6 (λW=>xc s.mz.k s.mz.n c W h1 hc);have R2:=X6 (λW=>xc s.my.k s.my.n c W h2 hc);obtain⟨m,hm⟩:∃m,m=(mj s.mz c).1:=⟨_,rfl⟩;obtain⟨b,hb⟩:∃b,b=(mj s.mz c).2:=⟨_,rfl⟩;obtain⟨m2,Pk⟩:∃m,m=(mj s.my c).1:=⟨_,rfl⟩;obtain⟨b2,mr⟩:∃b,b=(mj s.my c).2:=⟨_,rfl⟩;have e0:(⟨s.mz.k,s.mz.n⟩:Ln)=s.mz:=rfl;have e1:(⟨s.my.k,s.my.n⟩:Ln)=s.my:=rfl;rw[e0,<-hm,<-hb]at R1;rw[e1,<-Pk,<-mr]at R2;have HF:Hid (lF s c v=max (if b2 then max (if b then min v m else v) m2 else(if b then min v m else v)) 0):=X6 (by unfold lF;rw[hm,hb,Pk,mr]);clear hm hb Pk mr e0 e1 h1 h2 hc;rw[HF.out];clear HF;cases b<;>cases b2;all_goals
  go_enter func197,ntmps197;go_upto_region 2 with(go_at_call 152;refine(R1.out _).mono ?_;rintro e w' ⟨rfl,rfl⟩)
  go_wp2_with (go_at_call 152;refine(R2.out _).mono ?_;rintro e w' ⟨rfl,rfl⟩)
 all_goals
  go_ret;refine⟨?_,rfl⟩;show Ending.returned (.int .i64 _)=_;congr 2;try simp only[Z4,BT,Y9]
  try(repeat' split)
  all_goals (try omega)
end
section
def vo(a b:Int):Int:=if a<b then -1 else if b<a then 1 else 0
def VY(a:Int):Int:=if 9223372036854775807<a then 9223372036854775807 else if a< -9223372036854775808 then -9223372036854775808 else a
theorem Hi{W:World}{p:Addr}{v:Value}(h:W.cell? p=some v)(o:Obj):(W.alloc o).cell? p=some v:=(ZV _ _ _ (aA7 W p h)).trans h
theorem WE(W:World)(t:TypeId)(x y:Value):(W.alloc (.cells #[x,y] t)).cell? (W.heap.size,0)=some x:=(lq.new W t #[x,y]).cell 0
theorem UZ(W:World)(t:TypeId)(x y:Value):(W.alloc (.cells #[x,y] t)).cell? (W.heap.size,1)=some y:=(lq.new W t #[x,y]).cell 1
theorem UH{w w':World}(h:Below w.heap.size w w')(o:Obj):Below w.heap.size w (w'.alloc o):=h.alloc h.size _
end
section
end
section
end
section
structure NaS(a:Int)(w W:World):Prop where
 c0:W.cell? (w.heap.size,0)=some (pM a)
 c1:W.cell? (w.heap.size,1)=some (pI a)
 b:Below w.heap.size w W
theorem NaS.al{a:Int}{w W:World}(h:NaS a w W)(o:Obj):NaS a w (W.alloc o):=⟨Hi h.c0 o,Hi h.c1 o,UH h.b o⟩
theorem NaS.drew{a:Int}{w W:World}(h:NaS a w W):NaS a w W.drew:=⟨h.c0,h.c1,h.b.drew⟩
theorem NaS.new(a:Int)(w:World):NaS a w (w.alloc (.cells #[pM a,pI a] 270)).drew:=⟨WE _ _ _ _,UZ _ _ _ _,(UH (ZN _ _) _).drew⟩
end
section
theorem oB{P:Program}{w:World}{a:Addr}{m:Mode}(x:Int):(store a (pM x) m).run P w=stored P w a (pM x) m:=run_store P w a _ m rfl
theorem ox{P:Program}{w:World}{a:Addr}{m:Mode}(x:Int):(store a (pI x) m).run P w=stored P w a (pI x) m:=run_store P w a _ m rfl
attribute [local go_sem] oB ox
structure Xh(gR gA gW:Nat)(r a q:Int)(w W:World):Prop where
 r:lq W gR 270 #[pM r,pI r]
 a:lq W gA 270 #[pM a,pI a]
 q:lq W gW 270 #[pM q,pI q]
 k:Kp (λk=>k=gR\/k=gW) w W
section
variable{gR gA gW:Nat}{r a q:Int}{w W:World}
theorem Xh.al(h:Xh gR gA gW r a q w W)(o:Obj):Xh gR gA gW r a q w (W.alloc o):=⟨h.r.alloc o,h.a.alloc o,h.q.alloc o,h.k.alloc o⟩
theorem Xh.drew(h:Xh gR gA gW r a q w W):Xh gR gA gW r a q w W.drew:=⟨h.r.drew,h.a.drew,h.q.drew,h.k.drew⟩
theorem Xh.setR(h:Xh gR gA gW r a q w W)(h1:gR≠gA)(h2:gR≠gW)(x:Int):Xh gR gA gW x a q w ((W.setCell (gR,0) (pM x)).setCell (gR,1) (pI x)):=
 ⟨(h.r.lA 0 _).lA 1 _,(h.a.lQ (by exact λe=>h1 e.symm) _).lQ (by exact λe=>h1 e.symm) _,(h.q.lQ (by exact λe=>h2 e.symm) _).lQ (by exact λe=>h2 e.symm) _,(h.k.setCell (p:=(gR,0)) (.inl (.inl rfl)) _).setCell (p:=(gR,1)) (.inl (.inl rfl)) _⟩
end
def nG(r n a:Int):Int:=if a<=r+n then r+n-a else r+n
def nS(r n a q:Int):Int:=if a<=r+n then q+1 else q
end
section
attribute [local go_sem] oB ox
theorem Gz(A f all q r:Int)(bit:Int)(mO:0<all)(hf:0<=f)(hfa:f<=all)(hb:bit=0\/bit=1)(hr:0<=r/\r<all)(hq:q*all+r=A*f): let q1:=q+q;let r2:=nG r r all;let q2:=nS r r all q1;let r3:=if bit=1 then nG r2 f all else r2;let q3:=if bit=1 then nS r2 f all q2 else q2;(0<=r3/\r3<all)/\q3*all+r3=(2*A+bit)*f:=by
 have e2:(2*A+bit)*f=2*(A*f)+bit*f:=by rw[aCL,aDL]
 intro q1 r2 q2 r3 q3;have h2:(0<=r2/\r2<all)/\q2*all+r2=2*(A*f):=by
  show(0<=nG r r all/\nG r r all<all)/\nS r r all (q+q)*all+nG r r all=_;unfold nG nS;by_cases h:all<=r+r
  ·rw[YP h,YP h];have:(q+q+1)*all=q*all+q*all+all:=(by rw[aCL,aCL,Int.one_mul]);omega
  ·rw[YO h,YO h];have:(q+q)*all=q*all+q*all:=(by rw[aCL]);omega
 rw[e2];rcases hb with rfl | rfl
 ·have:r3=r2:=YO (by decide);have h3:q3=q2:=YO (by decide);rw[this,h3];omega
 ·have h4:r3=nG r2 f all:=YP rfl;have h5:q3=nS r2 f all q2:=YP rfl;rw[h4,h5];unfold nG nS;by_cases h:all<=r2+f
  ·rw[YP h,YP h];have:(q2+1)*all=q2*all+all:=(by rw[aCL,Int.one_mul]);omega
  ·rw[YO h,YO h];omega
theorem GJ(A f all q r:Int)(hr:0<=r/\r<all)(hq:q*all+r=A*f):q=A*f / all:=by rw[<-hq,Int.add_comm,Int.add_mul_ediv_right _ _ (by omega),Int.ediv_eq_zero_of_lt hr.1 hr.2,Int.zero_add]
theorem AE{A f all q r:Int}(hA:0<=A)(hf:0<=f/\f<=all)(mO:0<all)(hr:0<=r/\r<all)(hq:q*all+r=A*f):0<=q/\q<=A:=by have h:=GJ A f all q r hr hq;refine⟨by rw[h];exact aCO (aB7 hA hf.1) (by omega),?_⟩;rw[h];exact aDG mO (aA5 hf.2 hA)
structure ShI(g:Nat)(A f all q r:Int)(w wr:World):Prop where
 a:lq wr g 270 #[pM A,pI A]
 f:lq wr (g+1) 270 #[pM f,pI f]
 c:lq wr (g+3) 270 #[lx,.int .u64 0]
 s:Xh (g+1+1+1+1+1) (g+1+1) (g+1+1+1+1) r all q wr wr
 b:Below g w wr
theorem ShI.step{g:Nat}{A f all q r q' r':Int}{w wr w':World}(h:ShI g A f all q r w wr)(k:Xh (g+1+1+1+1+1) (g+1+1) (g+1+1+1+1) r' all q' wr w'):ShI g A f all q' r' w w':=
 ⟨h.a.kp k.k (by omega),h.f.kp k.k (by omega),h.c.kp k.k (by omega),⟨k.r,k.a,k.q,Kp.refl _ _⟩,h.b.trans (k.k.below (by intro k h;omega) (by have:=h.a.lt;omega))⟩
end
end Go.Proofs.YtjhingednpjogaaGreat
