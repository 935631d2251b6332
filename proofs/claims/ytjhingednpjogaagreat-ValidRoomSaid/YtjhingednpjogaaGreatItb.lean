/- Lemmas for ValidRoom; laid together by a program. -/
import Derived.Test.YtjhingednpjogaaGreatWh
set_option linter.all false
namespace Go.Proofs.YtjhingednpjogaaGreat
open Go.Proofs.Tryz
section
open Go.RowKit
theorem wpList_build{P:Program}{ops:Array Oper}{rest:List Oper}{o:Oper}{a:Act}{w:World}{Q:Exit->Act->World->Prop}(tZ:o.guard=none)(ty:TypeId)(parts:Array (Nat×Operand))(ho:o.op= .build ty parts)(v:Value) (rC:(Instr.build ty (parts.map λ(i,x)=>(i,a.eval x))).run P w= .ok v w) (h:wpList P ops Q rest (a.put o.dst v) w):wpList P ops Q (o::rest) a w:=
 aB4 tZ λK hK=>by unfold Oper.wp execOp;simp only[ho,PZ,rC,Yd,Yk];exact hK _ _ h
theorem qQ{P:Program}{ops:Array Oper}{rest:List Oper}{o:Oper}{a:Act}{w:World}{Q:Exit->Act->World->Prop}(tZ:o.guard=none)(ty:TypeId)(n:Nat)(parts:Array (Nat×Operand))(ho:o.op= .buildSlice ty n parts)(v:Value)(w':World) (rC:(Instr.buildSlice ty n (parts.map λ(i,x)=>(i,a.eval x))).run P w= .ok v w') (h:wpList P ops Q rest (a.put o.dst v) w'):wpList P ops Q (o::rest) a w:=
 aB4 tZ λK hK=>by unfold Oper.wp execOp;simp only[ho,PZ,rC,Yd,Yk];exact hK _ _ h
theorem rk{W:World}{g:Nat}{t:TypeId}{cs:List Value}{o:Nat}{xs:List Value}(hb:lq W g t cs.toArray)(hx:∀j v,xs[j]? =some v->cs[o+j]? =some v):W.rangeAt g o xs:=λj v hv=>hb.get (o+j) (by simpa using hx j v hv)
end
section
open Go.RowKit
def oD(v:Value)(w:World)(e:Ending)(w':World):Prop:=e= .returned v/\Below w.heap.size w w'
section
variable(w:World)
end
end
section
open Go.RowKit
def lexLt(o:Nat->Int)(a b:Nat):Prop:=o a<o b\/(o a=o b/\a<b)
theorem lexLt.trans{o:Nat->Int}{a b c:Nat}(h:lexLt o a b)(k:lexLt o b c):lexLt o a c:=by unfold lexLt at*;omega
theorem lexLt.le{o:Nat->Int}{a b:Nat}(h:lexLt o a b):o a<=o b:=by unfold lexLt at h;omega
theorem lexLt.asymm{o:Nat->Int}{a b:Nat}(h:lexLt o a b):¬lexLt o b a:=by unfold lexLt at*;omega
def TY(o:Nat->Int)(d:Nat->Nat)(a b:Nat):Prop:=∀p q,a<=p->p<q->q<b->lexLt o (d p) (d q)
theorem TY.le{o:Nat->Int}{d:Nat->Nat}{a b p q:Nat}(h:TY o d a b)(h1:a<=p)(h2:p<=q)(h3:q<b):o (d p)<=o (d q):=by
 rcases Nat.lt_or_eq_of_le h2 with h4 | rfl
 ·exact(h p q h1 h4 h3).le
 ·exact aC1 _
structure NP(a b:Nat)(d d':Nat->Nat):Prop where
 out:∀j,¬(a<=j/\j<b)->d' j=d j
 fro:∀i,a<=i->i<b->∃j,a<=j/\j<b/\d' i=d j
 bak:∀i,a<=i->i<b->∃j,a<=j/\j<b/\d i=d' j
theorem NP.refl(a b:Nat)(d:Nat->Nat):NP a b d d:=⟨λ_ _=>rfl,λi h k=>⟨i,h,k,rfl⟩,λi h k=>⟨i,h,k,rfl⟩⟩
theorem NP.trans{a b:Nat}{d e f:Nat->Nat}(h:NP a b d e)(k:NP a b e f):NP a b d f:=by
 refine⟨λj hj=>(k.out j hj).trans (h.out j hj),λi h1 h2=>?_,λi h1 h2=>?_⟩
 ·obtain⟨j,j1,j2,e1⟩:=k.fro i h1 h2;obtain⟨l,l1,l2,e2⟩:=h.fro j j1 j2;exact⟨l,l1,l2,e1.trans e2⟩
 ·obtain⟨j,j1,j2,e1⟩:=h.bak i h1 h2;obtain⟨l,l1,l2,e2⟩:=k.bak j j1 j2;exact⟨l,l1,l2,e1.trans e2⟩
theorem NP.mono{a b a' b':Nat}{d e:Nat->Nat}(h:NP a b d e)(ha:a'<=a)(hb:b<=b'):NP a' b' d e:=by
 refine⟨λj hj=>h.out j (by omega),λi h1 h2=>?_,λi h1 h2=>?_⟩
 ·by_cases hi:a<=i/\i<b
  ·obtain⟨j,j1,j2,e1⟩:=h.fro i hi.1 hi.2;exact⟨j,by omega,by omega,e1⟩
  ·exact⟨i,h1,h2,h.out i hi⟩
 ·by_cases hi:a<=i/\i<b
  ·obtain⟨j,j1,j2,e1⟩:=h.bak i hi.1 hi.2;exact⟨j,by omega,by omega,e1⟩
  ·exact⟨i,h1,h2,(h.out i hi).symm⟩
def shr(d:Nat->Nat)(i m:Nat):Nat->Nat:=λx=>if x=i then d m else if i<x/\x<=m then d (x-1)else d x
theorem NP.shr(d:Nat->Nat){a i m b:Nat}(h0:a<=i)(h1:i<=m)(h2:m<b):NP a b d (shr d i m):=by
 refine⟨λx hx=>?_,λx k1 k2=>?_,λx k1 k2=>?_⟩
 ·unfold Go.Proofs.YtjhingednpjogaaGreat.shr;rw[YO (by omega),YO (by omega)]
 ·unfold Go.Proofs.YtjhingednpjogaaGreat.shr;by_cases e:x=i
  ·exact⟨m,by omega,by omega,by rw[YP e]⟩
  ·by_cases e2:i<x/\x<=m
   ·exact⟨x-1,by omega,by omega,by rw[YO e,YP e2]⟩
   ·exact⟨x,k1,k2,by rw[YO e,YO e2]⟩
 ·unfold Go.Proofs.YtjhingednpjogaaGreat.shr;by_cases e:x=m
  ·exact⟨i,by omega,by omega,by rw[YP rfl,e]⟩
  ·by_cases e2:i<=x/\x<m
   ·exact⟨x+1,by omega,by omega,by rw[YO (by omega),YP ⟨by omega,by omega⟩];congr 1⟩
   ·exact⟨x,k1,k2,by rw[YO (by omega),YO (by omega)]⟩
theorem Zf{o:Nat->Int}{d:Nat->Nat}{a i m:Nat}(hs:TY o d a m)(h1:a<=i)(h2:i<=m)(hl:∀p,a<=p->p<i->lexLt o (d p) (d m))(hr:∀q,i<=q->q<m->lexLt o (d m) (d q)): TY o (shr d i m) a (m+1):=by
 intro p q hp LW hq;unfold shr;by_cases p1:p<i
 ·rw[YO (show¬p=i by omega),YO (by omega)];by_cases q1:q=i
  ·rw[YP q1];exact hl _ hp p1
  ·rw[YO q1];by_cases q2:i<q/\q<=m
   ·rw[YP q2];exact hs _ _ hp (by omega) (by omega)
   ·rw[YO q2];exact hs _ _ hp LW (by omega)
 ·rw[YO (show¬q=i by omega),YP (show i<q/\q<=m by omega)];by_cases p2:p=i
  ·rw[YP p2];exact hr _ (by omega) (by omega)
  ·rw[YO p2,YP (by omega)];exact hs _ _ (by omega) (by omega) (by omega)
structure Sym(o:Nat->Int)(d:Nat->Nat)(a m b s:Nat):Prop where
 am:a<m
 mb:m<b
 lo:(if(a+b) / 2<m then(a+b) / 2+m-b else a)<=s
 hi:s<=(if(a+b) / 2<m then(a+b) / 2 else m)
 l:∀c,(if(a+b) / 2<m then(a+b) / 2+m-b else a)<=c->c<s->lexLt o (d c) (d ((a+b) / 2+m-1-c))
 r:∀c,s<=c->c<(if(a+b) / 2<m then(a+b) / 2 else m)->lexLt o (d ((a+b) / 2+m-1-c)) (d c)
def ins(o:Nat->Int)(i:Nat):List Nat->List Nat
 | []=>[i]
 | x::t=>if o i<o x then i::x::t else x::ins o i t
def nc(o:Nat->Int)(n:Nat):List Nat:=(List.range n).foldl (λp i=>ins o i p) []
theorem tT(o:Nat->Int)(n:Nat):nc o (n+1)=ins o n (nc o n):=by unfold nc;rw[Xb,aB9];rfl
theorem I6(o:Nat->Int)(i:Nat):∀(l:List Nat) (x:Nat),x∈ins o i l↔x=i\/x∈l
 | [],x=>by simp[ins]
 | y::t,x=>by
  unfold ins
  split
  ·simp
  ·rw[Y7,I6 o i t x,Y7];constructor
   ·rintro(h | h | h)
    ·exact .inr (.inl h)
    ·exact .inl h
    ·exact .inr (.inr h)
   ·rintro(h | h | h)
    ·exact .inr (.inl h)
    ·exact .inl h
    ·exact .inr (.inr h)
theorem PA(o:Nat->Int)(i:Nat):∀l:List Nat,(ins o i l).length=l.length+1
 | []=>rfl
 | y::t=>by unfold ins;split<;>simp[PA o i t]
theorem O2(o:Nat->Int)(i:Nat):∀l:List Nat,l.Pairwise (lexLt o)->(∀x∈l,x<i)->(ins o i l).Pairwise (lexLt o)
 | [],_,_=>by simp[ins]
 | y::t,h,hb=>by
  rw[aBK]at h;unfold ins
  split
  ·rename_i lN;rw[aBK,aBK];refine⟨λz hz=>?_,h⟩;rcases Y7.1 hz with e | e
   ·subst e;exact .inl lN
   ·exact lexLt.trans (.inl lN) (h.1 z e)
  ·rename_i qU;rw[aBK];refine⟨λz hz=>?_,O2 o i t h.2 λx hx=>hb x (aCM _ hx)⟩;rcases(I6 o i t z).1 hz with e | e
   ·subst e;have:=hb y (by simp);unfold lexLt;omega
   ·exact h.1 z e
theorem tD(o:Nat->Int)(n x:Nat):x∈nc o n↔x<n:=by
 induction n with
 | zero=>simp[nc]
 | succ n ih=>rw[tT,I6,ih];omega
theorem vI(o:Nat->Int)(n:Nat):(nc o n).length=n:=by
 induction n with
 | zero=>rfl
 | succ n ih=>rw[tT,PA,ih]
theorem Ef(o:Nat->Int)(n:Nat):(nc o n).Pairwise (lexLt o):=by
 induction n with
 | zero=>exact List.Pairwise.nil
 | succ n ih=>rw[tT];exact O2 o n _ ih λx hx=>(tD o n x).1 hx
end
section
structure T0(o:Nat->Int)(d0 d:Nat->Nat)(a i:Nat):Prop where
 srt:TY o d a i
 pin:NP a i d0 d
theorem T0.start(o:Nat->Int)(d:Nat->Nat)(a:Nat):T0 o d d a (a+1):=⟨λp q h1 h2 h3=>by omega,NP.refl _ _ _⟩
theorem T0.next{o:Nat->Int}{d0 d:Nat->Nat}{a i j b:Nat}(h:T0 o d0 d a i)(hinc:∀p q,a<=p->p<q->q<b->d0 p<d0 q)(hi:i<b)(h1:a<=j)(h2:j<=i)(gt:∀q,j<=q->q<i->o (d i)<o (d q))(stop:j=a\/¬o (d i)<o (d (j-1))): T0 o d0 (shr d j i) a (i+1):=by
 have num:∀p,a<=p->p<i->d p<d i:=λp k1 k2=>by obtain⟨r,r1,r2,e⟩:=h.pin.fro p k1 k2;rw[e,h.pin.out i (by omega)];exact hinc r i r1 r2 hi
 refine⟨Zf h.srt h1 h2 (λp k1 k2=>?_) (λq k1 k2=> .inl (gt q k1 k2)),?_⟩
 ·have hs:¬o (d i)<o (d (j-1)):=by rcases stop with e | e<;>omega
  have:=h.srt.le k1 (show p<=j-1 by omega) (by omega);have:=num p k1 (by omega);unfold lexLt;omega
 ·exact(h.pin.mono (X7 _) (Z8 _)).trans (NP.shr d h1 h2 (Nat.lt_succ_self _))
def Sb(o:Nat->Int)(d:Nat->Nat)(bs lo hi n:Nat):Prop:=∀x,x % bs=0->lo<=x->x<hi->TY o d x (min (x+bs) n)/\∀p,x<=p->p<min (x+bs) n->x<=d p/\d p<x+bs
theorem Oz{x a m:Nat}(hx:x % m=0)(ha:a % m=0)(h:x<a):x+m<=a:=by obtain⟨p,rfl⟩:=aDC hx;obtain⟨q,rfl⟩:=aDC ha;have:p<q:=Nat.lt_of_mul_lt_mul_left h;have:=Nat.mul_le_mul_left m (show p+1<=q by omega);rw[Nat.mul_add,aB2]at this;exact this
theorem Wu{a bs:Nat}(h:a % (2*bs)=0):a % bs=0:=by obtain⟨p,rfl⟩:=aDC h;rw[aC8 2 bs,Nat.mul_assoc];exact Nat.mul_mod_right _ _
theorem TY.out{o:Nat->Int}{d d':Nat->Nat}{a b x y:Nat}(h:TY o d x y)(hp:∀j,¬(a<=j/\j<b)->d' j=d j)(hd:y<=a\/b<=x):TY o d' x y:=λp q h1 h2 h3=>by
 rw[hp p (by omega),hp q (by omega)];exact h p q h1 h2 h3
theorem Sb.out{o:Nat->Int}{d d':Nat->Nat}{a b bs lo hi n:Nat}(h:Sb o d bs lo hi n)(hp:∀j,¬(a<=j/\j<b)->d' j=d j)(hd:(∀x,x % bs=0->lo<=x->x<hi->x+bs<=a)\/b<=lo):Sb o d' bs lo hi n:=λx h1 h2 h3=>by
 obtain⟨s,m⟩:=h x h1 h2 h3;have hy:min (x+bs) n<=a\/b<=x:=by
  rcases hd with hd | hd
  ·left;have:=hd x h1 h2 h3;omega
  ·right;omega
 exact⟨s.out hp hy,λp k1 k2=>by rw[hp p (by omega)];exact m p k1 k2⟩
theorem Sb.ins{o:Nat->Int}{d d':Nat->Nat}{a b n:Nat}(h:Sb o d 20 0 a n)(ha:a % 20=0)(hb:b=min (a+20) n)(hid:∀x,a<=x->x<n->d x=x)(hi:TY o d' a b)(hp:NP a b d d'):Sb o d' 20 0 (a+20) n/\∀x,b<=x->x<n->d' x=x:=by
 refine⟨λx h1 h2 h3=>?_,λx h1 h2=>by rw[hp.out x (by omega)];exact hid x (by omega) h2⟩;by_cases hx:x<a
 ·exact(h.out hp.out (.inl λy k1 _ k3=>Oz k1 ha k3)) x h1 h2 hx
 ·have:x=a:=by have:= @Oz;omega
  subst this;rw[<-hb];refine⟨hi,λp k1 k2=>?_⟩;obtain⟨j,j1,j2,e⟩:=hp.fro p k1 k2;rw[e,hid j j1 (by omega)];omega
theorem Sb.rest{o:Nat->Int}{d:Nat->Nat}{bs a n:Nat}(h1:Sb o d (2*bs) 0 a n)(h2:Sb o d bs a n n)(ha:a % (2*bs)=0)(hm:n<=a+bs):Sb o d (2*bs) 0 n n:=λx k1 k2 k3=>by
 by_cases hx:x<a
 ·exact h1 x k1 k2 hx
 ·have hxa:x=a:=by
   rcases Z6 a x with h | h
   ·have:=Oz ha k1 h;omega
   ·omega
  subst hxa;obtain⟨s,m⟩:=h2 x (Wu ha) (X7 _) k3;rw[show min (x+2*bs) n=min (x+bs) n by omega];exact⟨s,λp q1 q2=>by have:=m p q1 q2;omega⟩
theorem Sb.done{o:Nat->Int}{d:Nat->Nat}{bs n:Nat}(h:Sb o d bs 0 n n)(hn:n<=bs):TY o d 0 n:=by
 rcases aAN n with e | e
 ·intro p q _ _ k;omega
 ·have:=(h 0 (Nat.zero_mod _) (X7 _) e).1;rw[show min (0+bs) n=n by omega]at this;exact this
end
section
structure It where
 s:me
 c:Int
 left:Int
 right:Int
 mY:Int
 base:Int
 guess:Int
 factor:Int
 IU:Int
 width:Int
 held:Bool
def EN(s:me)(c g:Int):Int:=if(mj s.basis c).2 then(mj s.basis c).1 else if(mj s.w c).2 then(mj s.w c).1 else g
def PG(s:me)(c g:Int):It:=⟨s,c,(mj s.m3 c).1,(mj s.m1 c).1,(mj s.m3 c).1+(mj s.m1 c).1+mS s,EN s c g,lF s c (EN s c g),0,0,0,false⟩
def tc(M:Nat->It)(f:It->Int)(ks:List Nat):Int:=(ks.map λk=>f (M k)).sum
def qG(wrap:Bool)(c:Int)(own:Nat->Int)(p:List (List Nat)×Int)(k:Nat):List (List Nat)×Int:=
 if p.1.length=0\/(wrap=true/\c<p.2+own k)then(p.1++[[k]],own k)else(p.1.dropLast++[(p.1.getLast?.getD [])++[k]],p.2+own k)
def sw(wrap:Bool)(c:Int)(own:Nat->Int)(l:List Nat):List (List Nat):=(l.foldl (qG wrap c own) ([],0)).1
def pY(M:Nat->It)(k:Nat):Int:=(M k).mY+(M k).guess
def Cm(grows:Bool)(x:It):Int:=if grows then x.s.grow else x.s.shrink*x.base
def Az(grows:Bool)(x:It):Bool:=decide (Cm grows x=0) || (grows && decide (x.guess<x.base)) || (!grows && decide (x.base<x.guess))
def qJ(grows:Bool)(x:It):It:=if Az grows x then {x with factor:=Cm grows x,held:=true,width:=x.guess}else {x with factor:=Cm grows x}
def uB(grows:Bool)(M:Nat->It)(ks:List Nat):Nat->It:=λk=>if k∈ks then qJ grows (M k)else M k
def lX(M:Nat->It)(ks:List Nat):List Nat:=ks.filter λk=> !(M k).held
def vN(room:Int)(M:Nat->It)(ks:List Nat):Int:=room-tc M (λx=>if x.held then x.width else x.base) ks
def xw(M:Nat->It)(amount all:Int)(k:Nat):Int:=amount*(M k).factor / all
def IL(M:Nat->It)(oth:List Nat)(rest:Int)(grows:Bool)(k:Nat):Int:=
 let all:=tc M It.factor oth;let amount:=if grows then rest else -rest
 if amount<=0\/all<=0 then(M k).base else
  let more:=xw M amount all k+(if(oth.idxOf k:Int)<amount-(oth.map (xw M amount all)).sum then 1 else 0)
  if grows then(M k).base+more else(M k).base-more
def qo(M:Nat->It)(oth:List Nat)(rest:Int)(grows:Bool):Nat->It:=λk=>if k∈oth then {M k with IU:=IL M oth rest grows k}else M k
def L0(x:It):Int:=lF x.s x.c x.IU
def Bs(M:Nat->It)(oth:List Nat):Int:=vo (tc M (λx=>L0 x-x.IU) oth) 0
def xo(way:Int)(x:It):It:=if way=0\/vo (L0 x) x.IU=way then {x with held:=true,width:=L0 x}else x
def tq(M:Nat->It)(oth:List Nat):Nat->It:=λk=>if k∈oth then xo (Bs M oth) (M k)else M k
def nI(room:Int)(grows:Bool)(M:Nat->It)(ks:List Nat):Nat->It:=tq (qo M (lX M ks) (vN room M ks) grows) (lX M ks)
def pR:Nat->Int->Bool->(Nat->It)->List Nat->(Nat->It)
 | 0,_,_,M,_=>M
 | n+1,room,grows,M,ks=>if lX M ks=[]then M else pR n room grows (nI room grows M ks) ks
def qq(c:Int)(M:Nat->It)(ks:List Nat):Int:=c-tc M It.mY ks
def BH(c:Int)(M:Nat->It)(ks:List Nat):Bool:=decide (tc M It.guess ks<qq c M ks)
def zY(c:Int)(M:Nat->It)(ks:List Nat):Nat->It:=pR ks.length (qq c M ks) (BH c M ks) (uB (BH c M ks) M ks) ks
theorem Od(l:List Nat)(f:Nat->Int)(h:0<(l.map f).sum):∃k∈l,0<f k:=by
 induction l with
 | nil=>simp at h
 | cons a t ih=>
  rw[Y6,ZF]at h;by_cases ha:0<f a
  ·exact⟨a,by simp,ha⟩
  ·obtain⟨k,hk,h2⟩:=ih (by omega);exact⟨k,by simp[hk],h2⟩
theorem M5(l:List Nat)(f:Nat->Int)(h:(l.map f).sum<0):∃k∈l,f k<0:=by
 induction l with
 | nil=>simp at h
 | cons a t ih=>
  rw[Y6,ZF]at h;by_cases ha:f a<0
  ·exact⟨a,by simp,ha⟩
  ·obtain⟨k,hk,h2⟩:=ih (by omega);exact⟨k,by simp[hk],h2⟩
theorem TK(M:Nat->It)(oth:List Nat)(h:oth≠[]):∃k∈oth,(tq M oth k).held=true:=by
 have hh:∀k∈oth,(Bs M oth=0\/vo (L0 (M k)) (M k).IU=Bs M oth)->(tq M oth k).held=true:=λk hk hc=>by unfold tq xo;rw[YP hk,YP hc]
 unfold Bs at hh;rcases Int.lt_trichotomy (tc M (λx=>L0 x-x.IU) oth) 0 with hs | hs | hs
 ·obtain⟨k,hk,h2⟩:=M5 oth _ hs;have h2:L0 (M k)-(M k).IU<0:=h2;exact⟨k,hk,hh k hk (.inr (by unfold vo;rw[YP (by omega),YP hs]))⟩
 ·obtain⟨k,hk⟩:=aC0 _ h;exact⟨k,hk,hh k hk (.inl (by rw[hs];rfl))⟩
 ·obtain⟨k,hk,h2⟩:=Od oth _ hs;have h2:0<L0 (M k)-(M k).IU:=h2;exact⟨k,hk,hh k hk (.inr (by unfold vo;rw[YO (by omega),YP (by omega),YO (by omega),YP hs]))⟩
theorem GW(M:Nat->It)(oth:List Nat)(k:Nat)(h:(M k).held=true):(tq M oth k).held=true:=by
 unfold tq xo
 split
 ·split
  ·rfl
  ·exact h
 ·exact h
theorem Hw(M:Nat->It)(oth:List Nat)(rest:Int)(grows:Bool)(k:Nat):(qo M oth rest grows k).held=(M k).held:=by unfold qo;split<;>rfl
theorem Ee(l:List Nat)(p q:Nat->Bool)(h:∀k∈l,q k=true->p k=true)(h2:∃k∈l,p k=true/\q k=false):(l.filter q).length<(l.filter p).length:=by
 induction l with
 | nil=>obtain⟨k,hk,_⟩:=h2;simp at hk
 | cons a t ih=>
  have hle:∀l:List Nat,(∀k∈l,q k=true->p k=true)->(l.filter q).length<=(l.filter p).length:=λl=>by
   induction l with
   | nil=>intro _;simp
   | cons b u ih2=>
    intro hb;have:=ih2 λk hk=>hb k (by simp[hk]);have mr:=hb b (by simp);cases hq:q b
    ·cases hp:p b<;>simp[VN,hq,hp]<;>omega
    ·simp[VN,hq,mr hq];omega
  have ht:∀k∈t,q k=true->p k=true:=λk hk=>h k (by simp[hk]);have ha:=h a (by simp);obtain⟨k,hk,hp,hq⟩:=h2;rcases Y7.1 hk with e | e
  ·subst e;have:=hle t ht;simp[VN,hq,hp];omega
  ·have:=ih ht ⟨k,e,hp,hq⟩;cases hqa:q a
   ·cases hpa:p a<;>simp[VN,hqa,hpa]<;>omega
   ·simp[VN,hqa,ha hqa];omega
theorem yA(room:Int)(grows:Bool)(M:Nat->It)(ks:List Nat)(h:lX M ks≠[]):(lX (nI room grows M ks) ks).length<(lX M ks).length:=by
 refine Ee ks _ _ (λk hk h1=>?_) ?_
 ·cases hh:(M k).held
  ·rfl
  ·exfalso;have:(nI room grows M ks k).held=true:=GW _ _ k (by rw[Hw];exact hh);rw[this]at h1;cases h1
 ·obtain⟨k,hk,hh⟩:=TK (qo M (lX M ks) (vN room M ks) grows) (lX M ks) h;obtain⟨zH,Ff⟩:=ZI.1 hk;exact⟨k,zH,Ff,by show(!(nI room grows M ks k).held)=false;unfold nI;rw[hh];rfl⟩
theorem Hf:∀(n m:Nat) (room:Int) (grows:Bool) (M:Nat->It) (ks:List Nat),(lX M ks).length<=n->(lX M ks).length<=m->pR n room grows M ks=pR m room grows M ks
 | 0,0,_,_,_,_,_,_=>rfl
 | 0,m+1,room,grows,M,ks,h,_=>by have:lX M ks=[]:=aAO.1 (by omega);rw[pR,pR,YP this]
 | n+1,0,room,grows,M,ks,_,h=>by have:lX M ks=[]:=aAO.1 (by omega);rw[pR,pR,YP this]
 | n+1,m+1,room,grows,M,ks,h1,h2=>by
  rw[pR,pR]
  split
  ·rfl
  ·rename_i h;have:=yA room grows M ks h;exact Hf n m room grows _ ks (by omega) (by omega)
theorem Qu(room:Int)(grows:Bool)(M:Nat->It)(ks:List Nat)(n:Nat)(hn:(lX M ks).length<=n)(h:lX M ks≠[]):pR n room grows M ks=pR n room grows (nI room grows M ks) ks:=by
 rcases n with _ | n
 ·exact absurd (aAO.1 (by omega)) h
 ·have:=yA room grows M ks h;rw[pR,YO h];exact Hf n (n+1) room grows _ ks (by omega) (by omega)
theorem QA(room:Int)(grows:Bool)(M:Nat->It)(ks:List Nat)(n:Nat)(h:lX M ks=[]):pR n room grows M ks=M:=by
 rcases n with _ | n
 ·rfl
 ·rw[pR,YP h]
end
section
theorem U3(l:List Nat)(f:Nat->Int)(h:∀k∈l,f k=0):(l.map f).sum=0:=by
 induction l with
 | nil=>rfl
 | cons a t ih=>rw[Y6,ZF,h a (by simp),ih λk hk=>h k (by simp[hk])];rfl
theorem sum_eqs(l:List Nat)(f g:Nat->Int)(h:∀k∈l,f k=g k):(l.map f).sum=(l.map g).sum:=by
 induction l with
 | nil=>rfl
 | cons a t ih=>rw[Y6,Y6,ZF,ZF,h a (by simp),ih λk hk=>h k (by simp[hk])]
theorem sum_add(l:List Nat)(f g:Nat->Int):(l.map λk=>f k+g k).sum=(l.map f).sum+(l.map g).sum:=by
 induction l with
 | nil=>rfl
 | cons a t ih=>rw[Y6,Y6,Y6,ZF,ZF,ZF,ih];omega
theorem zT(l:List Nat)(f:Nat->Int)(h:∀k∈l,0<=f k):0<=(l.map f).sum:=by
 induction l with
 | nil=>exact aC1 _
 | cons a t ih=>rw[Y6,ZF];have:=h a (by simp);have:=ih λk hk=>h k (by simp[hk]);omega
theorem aal(l:List Nat)(f:Nat->Int)(h:∀k∈l,1<=f k):(l.length:Int)<=(l.map f).sum:=by
 induction l with
 | nil=>exact aC1 _
 | cons a t ih=>rw[Y6,ZF,ZA];have:=h a (by simp);have:=ih λk hk=>h k (by simp[hk]);omega
theorem Mp(l:List Nat)(g:Nat->Int)(R G:Int)(hG:0<G):G*(l.map λk=>R*g k / G).sum<=R*(l.map g).sum/\R*(l.map g).sum<=G*(l.map λk=>R*g k / G).sum+(G-1)*l.length:=by
 induction l with
 | nil=>simp
 | cons a t ih=>
  rw[Y6,Y6,ZF,ZF,ZA,aB3,aB3];have e:(G-1)*((t.length+1:Nat):Int)=(G-1)*t.length+(G-1):=by rw[aDE,aB3];simp
  rw[e];have h1:=Int.emod_add_mul_ediv (R*g a) G;have h2:=Int.emod_nonneg (R*g a) (show G≠0 by omega);have h3:=Int.emod_lt_of_pos (R*g a) hG;omega
end
section
structure qN(x y:It):Prop where
 s:y.s=x.s
 c:y.c=x.c
 left:y.left=x.left
 right:y.right=x.right
 mY:y.mY=x.mY
 base:y.base=x.base
 guess:y.guess=x.guess
theorem qN.refl(x:It):qN x x:=⟨rfl,rfl,rfl,rfl,rfl,rfl,rfl⟩
theorem qN.trans{x y z:It}(h:qN x y)(k:qN y z):qN x z:=⟨k.s.trans h.s,k.c.trans h.c,k.left.trans h.left,k.right.trans h.right,k.mY.trans h.mY,k.base.trans h.base,k.guess.trans h.guess⟩
theorem D5(grows:Bool)(M:Nat->It)(ks:List Nat)(k:Nat):qN (M k) (uB grows M ks k):=by
 unfold uB qJ
 split
 ·split<;>exact⟨rfl,rfl,rfl,rfl,rfl,rfl,rfl⟩
 ·exact qN.refl _
theorem De(room:Int)(grows:Bool)(M:Nat->It)(ks:List Nat)(k:Nat):qN (M k) (nI room grows M ks k):=by
 have h1:qN (M k) (qo M (lX M ks) (vN room M ks) grows k):=by
  unfold qo
  split
  ·exact⟨rfl,rfl,rfl,rfl,rfl,rfl,rfl⟩
  ·exact qN.refl _
 refine h1.trans ?_;unfold nI tq xo
 split
 ·split
  ·exact⟨rfl,rfl,rfl,rfl,rfl,rfl,rfl⟩
  ·exact qN.refl _
 ·exact qN.refl _
theorem Hk:∀(n:Nat) (room:Int) (grows:Bool) (M:Nat->It) (ks:List Nat) (k:Nat),qN (M k) (pR n room grows M ks k)
 | 0,_,_,M,_,k=>qN.refl _
 | n+1,room,grows,M,ks,k=>by
  rw[pR]
  split
  ·exact qN.refl _
  ·exact(De room grows M ks k).trans (Hk n room grows _ ks k)
theorem T6(c:Int)(M:Nat->It)(ks:List Nat)(k:Nat):qN (M k) (zY c M ks k):=(D5 _ M ks k).trans (Hk _ _ _ _ ks k)
theorem K5:∀(n:Nat) (room:Int) (grows:Bool) (M:Nat->It) (ks:List Nat) (k:Nat),k∉ks->pR n room grows M ks k=M k
 | 0,_,_,M,_,k,_=>rfl
 | n+1,room,grows,M,ks,k,h=>by
  have ho:k∉lX M ks:=λh2=>h (ZI.1 h2).1;have hr:nI room grows M ks k=M k:=by unfold nI tq qo;rw[YO ho,YO ho]
  rw[pR]
  split
  ·rfl
  ·rw[K5 n room grows _ ks k h,hr]
theorem Pn(c:Int)(M:Nat->It)(ks:List Nat)(k:Nat)(h:k∉ks):zY c M ks k=M k:=by unfold zY;rw[K5 _ _ _ _ _ _ h];unfold uB;rw[YO h]
def sB(c:Int)(M:Nat->It)(rows:List (List Nat)):Nat->It:=rows.foldl (zY c) M
end
section
open Go.RowKit
attribute [local go_sem] lp oB ox
def itTail(x:It):List Value:=[.int .i64 x.c,.int .i64 x.left,.int .i64 x.right,pM x.mY,pI x.mY,.int .i64 x.base,.int .i64 x.guess,pM x.factor,pI x.factor,pM x.IU,pI x.IU,pM x.width,pI x.width,.bool x.held]
def oE(x:It):List Value:=lj x.s++itTail x
section
variable(x:It)
end
theorem lq.it_set{W:World}{g:Nat}{x y:It}(h:lq W g 272 (oE x).toArray)(i:Nat)(u:Value)(e:(oE x).toArray.setIfInBounds i u=(oE y).toArray):lq (W.setCell (g,i) u) g 272 (oE y).toArray:=e▸h.lA i u
theorem lq.aag{W:World}{g:Nat}{x y:It}(h:lq W g 272 (oE x).toArray)(i:Nat)(u v:Value)(e:((oE x).toArray.setIfInBounds i u).setIfInBounds (i+1) v=(oE y).toArray):lq ((W.setCell (g,i) u).setCell (g,i+1) v) g 272 (oE y).toArray:=e▸(h.lA i u).lA (i+1) v
structure SW(g:Nat)(s:me)(x:Cn)(y:It)(w wr:World):Prop where
 st:lq wr g 63 (lj s).toArray
 cn:lq wr (g+1) 38 (mP x).toArray
 it:lq wr (g+1+1) 272 (oE y).toArray
 b:Below g w wr
section
variable{g:Nat}{s:me}{x:Cn}{y z:It}{w wr w':World}
theorem SW.lR(h:SW g s x y w wr)(hb:Below wr.heap.size wr w'):SW g s x y w w':=
 ⟨h.st.below hb h.st.lt,h.cn.below hb h.cn.lt,h.it.below hb h.it.lt,h.b.trans (hb.mono (by have:=h.st.lt;omega))⟩
theorem SW.lA(h:SW g s x y w wr)(i:Nat)(u:Value)(e:(oE y).toArray.setIfInBounds i u=(oE z).toArray):SW g s x z w (wr.setCell (g+1+1,i) u):=
 ⟨h.st.lQ (by show g≠g+1+1;omega) _,h.cn.lQ (by show g+1≠g+1+1;omega) _,h.it.it_set i u e,h.b.setCell (p:=(g+1+1,i)) (by show g<=g+1+1;omega) _⟩
theorem SW.Nc(h:SW g s x y w wr)(i:Nat)(u v:Value)(e:((oE y).toArray.setIfInBounds i u).setIfInBounds (i+1) v=(oE z).toArray):SW g s x z w ((wr.setCell (g+1+1,i) u).setCell (g+1+1,i+1) v):=
 ⟨(h.st.lQ (by show g≠g+1+1;omega) _).lQ (by show g≠g+1+1;omega) _,(h.cn.lQ (by show g+1≠g+1+1;omega) _).lQ (by show g+1≠g+1+1;omega) _,h.it.aag i u v e,(h.b.setCell (p:=(g+1+1,i)) (by show g<=g+1+1;omega) _).setCell (p:=(g+1+1,i+1)) (by show g<=g+1+1;omega) _⟩
theorem SW.drew(h:SW g s x y w wr):SW g s x y w wr.drew:=⟨h.st.drew,h.cn.drew,h.it.drew,h.b.drew⟩
end
end
section
open Go.RowKit
attribute [local go_sem] lp
def NQ(d:Nat->Nat)(n:Nat):List Value:=(List.range n).map λi=>Value.int .i64 ((d i:Nat):Int)
theorem Rm(d:Nat->Nat){n p:Nat}(h:p<n):(NQ d n).toArray[p]? =some (.int .i64 (d p:Nat)):=by simp[NQ,h]
structure Md(N g n:Nat)(d:Nat->Nat)(w wr:World):Prop where
 b:lq wr g 3 (NQ d n).toArray
 k:Kp (λk=>k=g) w wr
 m:∀p,p<n->d p<N
section
variable{N g n:Nat}{d d':Nat->Nat}{w w1 wr:World}
theorem Md.lt(h:Md N g n d w wr):g<wr.heap.size:=h.b.lt
theorem Md.get(h:Md N g n d w wr){p:Nat}(hp:p<n):wr.cell? (g,p)=some (.int .i64 (d p:Nat)):=h.b.get p (Rm d hp)
theorem Md.fz(h:Md N g n d w wr)(p:Nat):wr.frozen? (g,p)=false:=h.b.frozen p
theorem Md.drew(h:Md N g n d w wr):Md N g n d w wr.drew:=⟨h.b.drew,h.k.drew,h.m⟩
theorem Md.trans(h:Md N g n d w w1)(k:Md N g n d' w1 wr):Md N g n d' w wr:=⟨k.b,h.k.trans k.k,k.m⟩
theorem Md.lR(h:Md N g n d w wr){w':World}(hb:Below wr.heap.size wr w'):Md N g n d w w':=⟨h.b.below hb h.lt,h.k.trans (Kp.nD hb _),h.m⟩
end
end
section
open Go.RowKit
attribute [local go_sem] lp
end
section
open Go.RowKit
attribute [local go_sem] lp
def nh(l:List me):List Value:=l.flatMap lj
theorem sC(l:List me):∀(k i:Nat) (hk:k<l.length),i<43->(nh l)[k*43+i]? =(lj l[k])[i]?:=by
 induction l with
 | nil=>intro k i hk;simp at hk
 | cons a t ih=>
  intro k i hk hi;have hc:nh (a::t)=lj a++nh t:=by simp[nh]
  rw[hc];rcases k with _ | k
  ·rw[YN (by rw[lL];omega)];simp
  ·rw[YQ (by rw[lL];omega),lL,show(k+1)*43+i-43=k*43+i by omega,ih k i (by simpa using hk) hi];simp
structure StAt(w:World)(B:Nat)(p:Addr)(x:me):Prop where
 lt:p.block<B
 c0:w.cell? p=some (.int .u8 x.kind)
 cs:∀i u,(lj x)[i+1]? =some u->w.cell? ⟨p.block,p.off+(i+1),none⟩=some u
theorem Reads.st{w:World}{B n k:Nat}{A:Option Addr}{l:List me}(h:Reads w B 43 A n (nh l))(hn:n=l.length)(hk:k<l.length): ∃ad:Addr,A=some ad/\StAt w B (ad.add (k*43)) l[k]:=by
 obtain⟨ad,e,hb,hc⟩:=h.2 (by omega);refine⟨ad,e,⟨by rw[lp];exact hb,?_,λi u hu=>?_⟩⟩
 ·exact hc _ _ (by have:=sC l k 0 hk (by omega);rw[Nat.add_zero]at this;rw[this];rfl)
 ·have hi:i+1<43:=by have:=(YT.1 hu).1;rw[lL]at this;exact this
  have ha:(⟨(ad.add (k*43)).block,(ad.add (k*43)).off+(i+1),none⟩:Addr)=ad.add (k*43+(i+1)):=by rw[<-mJ,show∀p:Addr,p.add (i+1)=⟨p.block,p.off+(i+1),none⟩from λp=>by unfold Addr.add;rw[YO (by omega)]]
  rw[ha];exact hc _ u (by rw[sC l k (i+1) hk hi];exact hu)
theorem QG(s:me):(lj s)[36+1]? =some (.int .i64 s.order):=rfl
def pT(l:List me)(k:Nat):Int:=((l[k]?).map me.order).getD 0
theorem aao(l:List me){k:Nat}(h:k<l.length):pT l k=l[k].order:=by unfold pT;rw[YH h];rfl
structure KdS(gk:Nat)(A:Option Addr)(ck:Nat)(l:List me)(B:Nat)(W:World):Prop where
 c:W.cell? (gk,0)=some (.slice A l.length ck)
 r:Reads W B 43 A l.length (nh l)
theorem KdS.kp{gk ck B:Nat}{A:Option Addr}{l:List me}{W W':World}{bad:Nat->Prop}(h:KdS gk A ck l B W)(hk:Kp bad W W')(h1:¬bad gk)(hB:B<=W.heap.size)(hn:∀k,bad k->B<=k):KdS gk A ck l B W':=
 ⟨(hk.cell (aA7 W _ h.c) h1).trans h.c,h.r.kp hk hB hn⟩
end
section
open Go.RowKit
attribute [local go_sem] lp
structure Ue(gk g N:Nat)(o:Nat->Int)(w:World):Prop where
 run:∀(W:World) (x y:Nat),Kp (λk=>k=g) w W->x<N->y<N->Calls prog 214 #[x,y,.pointer gk] W λe w'=>e= .returned (.int .i64 (vo (o x) (o y)))/\Below W.heap.size W w'
theorem Ue.kp{gk g N:Nat}{o:Nat->Int}{w w':World}(h:Ue gk g N o w)(k:Kp (λk=>k=g) w w'):Ue gk g N o w':=⟨λW x y hW=>h.run W x y (k.trans hW)⟩
end
section
open Go.RowKit
attribute [local go_sem] lp
end
section
open Go.RowKit
attribute [local go_sem] lp
end
section
open Go.RowKit
attribute [local go_sem] lp
structure SymI(o:Nat->Int)(d:Nat->Nat)(lo hi p s r:Nat):Prop where
 l:∀c,lo<=c->c<s->lexLt o (d c) (d (p-c))
 r:∀c,r<=c->c<hi->lexLt o (d (p-c)) (d c)
end
section
open Go.RowKit
attribute [local go_sem] lp
end
section
open Go.RowKit
attribute [local go_sem] lp
def UY(l:List Nat):List Value:=l.map λx:Nat=>Value.int .i64 (x:Int)
end
section
open Go.RowKit
attribute [local go_sem] lp oB ox
structure C4(n:Nat)(B:Nat->Nat)(M:Nat->It)(w:World):Prop where
 b:∀k,k<n->lq w (B k) 272 (oE (M k)).toArray
 inj:∀i j,i<n->j<n->B i=B j->i=j
def isB(n:Nat)(B:Nat->Nat)(g:Nat):Prop:=∃k,k<n/\g=B k
section
variable{n:Nat}{B:Nat->Nat}{M:Nat->It}{w w':World}
theorem C4.lR(h:C4 n B M w)(hb:Below w.heap.size w w'):C4 n B M w':=⟨λk hk=>(h.b k hk).below hb (h.b k hk).lt,h.inj⟩
theorem C4.drew(h:C4 n B M w):C4 n B M w.drew:=⟨λk hk=>(h.b k hk).drew,h.inj⟩
theorem C4.congr{M':Nat->It}(h:C4 n B M w)(e:∀k,k<n->M k=M' k):C4 n B M' w:=⟨λk hk=>e k hk▸h.b k hk,h.inj⟩
end
def J8:me:=⟨0,false,0,0,⟨0,0⟩,⟨0,0⟩,⟨0,0⟩,⟨0,0⟩,⟨0,0⟩,⟨0,0⟩,⟨0,0⟩,⟨0,0⟩,⟨0,0⟩,⟨0,0⟩,0,0,0,0,0,0,0,0,0,0,false,0,0,0,0,0,⟨0,0⟩,[],.slice none 0 0⟩
def stK(l:List me)(k:Nat):me:=(l[k]?).getD J8
theorem Jp{l:List me}{k:Nat}(h:k<l.length):stK l k=l[k]:=by unfold stK;rw[YH h];rfl
def xr(l:List me)(c:Int)(got:List Cn)(k:Nat):It:=PG (stK l k) c (qy got k).lC
def Fo(B:Nat->Nat)(ks:List Nat):List Value:=ks.map λk=>Value.pointer (some ⟨B k,0,none⟩)
def ptrU(B:Nat->Nat)(k n:Nat):List Value:=(List.range n).map λi=>if i<k then Value.pointer (some ⟨B i,0,none⟩)else Value.pointer none
structure UA(s:me):Prop where
 m1:vz s.m1
 m3:vz s.m3
 w:vz s.w
 basis:vz s.basis
 mz:vz s.mz
 my:vz s.my
 b:zp s
structure MdI(N n:Nat)(l:List me)(c:Int)(got:List Cn)(k:Nat)(B:Nat->Nat)(w wr:World):Prop where
 all:lq wr N 38 (ly (qe got n)).toArray
 pt:lq wr (N+1) 273 (ptrU B k n).toArray
 its:C4 k B (xr l c got) wr
 ge:∀i,i<k->N+1<B i
 b:Below N w wr
structure MdS(N gs k:Nat)(s:me)(x:Cn)(W:World):Prop where
 st:lq W gs 63 (lj s).toArray
 c0:W.cell? (N,k*4)=x.least
 c1:W.cell? (N,k*4+1)=x.lC
 c2:W.cell? (N,k*4+2)=x.ol
 c3:W.cell? (N,k*4+3)=x.og
 lt:N<W.heap.size
theorem MdS.lR{N gs k:Nat}{s:me}{x:Cn}{W W':World}(h:MdS N gs k s x W)(hb:Below W.heap.size W W'):MdS N gs k s x W':=
 ⟨h.st.below hb h.st.lt,(hb.cell (p:=(N,k*4)) h.lt).trans h.c0,(hb.cell (p:=(N,k*4+1)) h.lt).trans h.c1,(hb.cell (p:=(N,k*4+2)) h.lt).trans h.c2,(hb.cell (p:=(N,k*4+3)) h.lt).trans h.c3,YK h.lt hb.size⟩
structure MeasAns(n:Nat)(l:List me)(c:Int)(got:List Cn)(w w':World)(e:Ending):Prop where
 ex:∃B,e= .returned (.slice (some ⟨w.heap.size+1,0,none⟩) n n)/\lq w' (w.heap.size+1) 273 (Fo B (List.range n)).toArray/\C4 n B (xr l c got) w'/\∀k,k<n->w.heap.size+1<B k
 b:Below w.heap.size w w'
end
end Go.Proofs.YtjhingednpjogaaGreat
