/- Lemmas for ValidRoom; laid together by a program. -/
import Derived.Test.YtjhingednpjogaaGreatTrp
set_option linter.all false
namespace Go.Proofs.YtjhingednpjogaaGreat
section
def Vg(s:me)(v:Int):Int:=if s.mz.k=1/\s.mz.n<=lU (EO s v)then s.mz.n else EO s v
def o3P(s:me)(v:Int):Int:=if s.my.k=1/\lU (Vg s v)<=s.my.n then s.my.n else Vg s v
def MY(s:me)(v:Int):Int:=max (o3P s v+mS s+o7 s.m3+o7 s.m1) 0
theorem zi(a:Int):(a< -1099511627776/\lU a= -1099511627776)\/(1099511627776<a/\lU a=1099511627776)\/(-1099511627776<=a/\a<=1099511627776/\lU a=a):=by
 unfold lU;repeat' split
 all_goals omega
end
section
def isLet(u:Int):Bool:= !decide (u=32) && !decide (u=10)
def rD(l:List Int)(k:Nat):Bool:=decide (k<l.length) && isLet (l[k]?.getD 0)
def wO:List Int->Nat
 | []=>0
 | u::t=>if isLet u then wO t+1 else 0
def pL(l:List Int)(k:Nat):Nat:=k+wO (l.drop k)
def Bv(l:List Int)(a:Nat):Nat->Nat
 | 0=>0
 | b+1=>if a<=b/\l[b]?.getD 0=10 then Bv l a b+1 else Bv l a b
def anyS(l:List Int)(a:Nat):Nat->Bool
 | 0=>false
 | b+1=>if a<=b/\l[b]?.getD 0=32 then true else anyS l a b
def pK(l:List Int)(k:Nat):Bool:=rD l k && !(decide (0<k) && rD l (k-1))
def nQ(l:List Int):Nat->List Sp×Nat
 | 0=>([],0)
 | k+1=>if pK l k then((nQ l k).1++[⟨k,pL l k,Bv l (nQ l k).2 k,anyS l (nQ l k).2 k⟩],pL l k)else nQ l k
theorem Sr(l:List Int):wO l<=l.length:=by
 induction l with
 | nil=>simp[wO]
 | cons u t ih=>simp only[wO];split<;>simp<;>omega
theorem Qq(l:List Int)(k:Nat)(h:k<=l.length):pL l k<=l.length:=by have:=Sr (l.drop k);simp at this;unfold pL;omega
theorem Gt(l:List Int)(k:Nat):k<=pL l k:=by unfold pL;omega
theorem zu{l:List Int}{k:Nat}(h:rD l k=true):pL l (k+1)=pL l k:=by simp only[rD,Z3,ZU]at h;obtain⟨h1,h2⟩:=h;rw[YH h1]at h2;simp only[aC6]at h2;unfold pL;rw[ZH h1];simp only[wO,h2,Z4];omega
theorem xI{l:List Int}{k:Nat}(h:rD l k=false):pL l k=k:=by
 unfold pL;by_cases h1:k<l.length
 ·simp only[rD,h1,decide_true,aCK]at h;rw[YH h1]at h;simp only[aC6]at h;rw[ZH h1];simp[wO,h]
 ·rw[List.drop_eq_nil_of_le (by omega)];simp[wO]
theorem AJ(l:List Int)(a:Nat):∀b,b<=a->Bv l a b=0
 | 0,_=>rfl
 | b+1,h=>by simp only[Bv];rw[YO (by omega)];exact AJ l a b (by omega)
theorem Dn(l:List Int)(a:Nat):∀b,b<=a->anyS l a b=false
 | 0,_=>rfl
 | b+1,h=>by simp only[anyS];rw[YO (by omega)];exact Dn l a b (by omega)
theorem MF(l:List Int)(a:Nat):∀b,Bv l a b<=b
 | 0=>by simp[Bv]
 | b+1=>by have:=MF l a b;simp only[Bv];split<;>omega
theorem Ei{l:List Int}{k:Nat}(h:pK l k=true):rD l k=true/\(0<k->rD l (k-1)=false):=by
 simp only[pK,Z3,aCA,Bool.and_eq_false_iff,aA6]at h;refine⟨h.1,λhk=>?_⟩;rcases h.2 with h | h
 ·omega
 ·exact h
def Agree(l:List Int)(k:Nat):Prop:=
 (sc l k).ins=(decide (0<k) && rD l (k-1))/\
 ((sc l k).ins=true->nQ l k=((sc l k).out++[⟨(sc l k).s.fr,pL l k,(sc l k).s.ends,(sc l k).s.sp⟩],pL l k))/\
 ((sc l k).ins=false->(nQ l k).1=(sc l k).out/\(nQ l k).2<=k/\(sc l k).s.ends=Bv l (nQ l k).2 k/\(sc l k).s.sp=anyS l (nQ l k).2 k)
theorem TI(l:List Int):∀k,k<=l.length->Agree l k
 | 0,_=>⟨by simp[sc],by simp[sc],by simp[sc,nQ,Sp.nil,Bv,anyS]⟩
 | k+1,hk=>by
  obtain⟨h1,h2,h3⟩:=TI l k (by omega);have lN:k<l.length:=by omega
  unfold Agree;simp only[nQ,sc,xd,aDN,Nat.zero_lt_succ,decide_true,aCK];by_cases hu:l[k]?.getD 0=32
  ·have hL:rD l k=false:=(by simp[rD,isLet,hu]);have hB:pK l k=false:=(by simp[pK,hL]);simp only[hu,Z4,hL,hB];cases hi:(sc l k).ins
   ·obtain⟨e1,e2,e3,e4⟩:=h3 hi;simp only[Bv,anyS,hu];refine⟨by simp,by simp,λ_=>⟨by simpa using e1,?_,?_,?_⟩⟩
    ·simp;omega
    ·simpa using e3
    ·simp;exact .inl e2
   ·have e1:=h2 hi;have hr:=xI hL;rw[e1,hr];refine⟨by simp,by simp,λ_=>?_⟩;simp[Bv,anyS,hu,AJ]
  ·by_cases hv:l[k]?.getD 0=10
   ·have hL:rD l k=false:=(by simp[rD,isLet,hv]);have hB:pK l k=false:=(by simp[pK,hL]);simp only[hv,Z4,hL,hB];cases hi:(sc l k).ins
    ·obtain⟨e1,e2,e3,e4⟩:=h3 hi;simp only[Bv,anyS,hv];refine⟨by simp,by simp,λ_=>⟨by simpa using e1,?_,?_,?_⟩⟩
     ·simp;omega
     ·simp[e2,e3]
     ·simpa using e4
    ·have e1:=h2 hi;have hr:=xI hL;rw[e1,hr];refine⟨by simp,by simp,λ_=>?_⟩;simp[Bv,anyS,hv,AJ,Dn]
   ·have hL:rD l k=true:=(by rw[rD,isLet,YC lN,X9 hu,X9 hv];rfl);have hr:=zu hL;simp only[hu,hv,BT,hL];cases hi:(sc l k).ins
    ·obtain⟨e1,e2,e3,e4⟩:=h3 hi;have hB:pK l k=true:=(by simp[pK,hL,<-h1,hi]);simp only[hB,Z4];refine⟨by simp,λ_=>?_,by simp⟩;simp[e1,e3,e4,hr]
    ·have e1:=h2 hi;have hB:pK l k=false:=(by simp[pK,hL,<-h1,hi]);simp only[hB];refine⟨by simp[hi],λ_=>?_,by simp[hi]⟩;simp[e1,hr]
theorem Hz(l:List Int):(nQ l l.length).1=nV l:=by
 obtain⟨_,h2,h3⟩:=TI l l.length (X7 _);unfold nV;cases hi:(sc l l.length).ins
 ·simpa using(h3 hi).1
 ·rw[h2 hi,xI (by simp[rD])];simp
theorem U4{l:List Int}{k:Nat}(hk:k<=l.length)(h:pK l k=true):(nQ l k).2<=k:=by
 obtain⟨h1,_,h3⟩:=TI l k hk;refine(h3 ?_).2.1;rw[h1];by_cases h0:0<k
 ·simp[(Ei h).2 h0]
 ·simp[h0]
theorem Pj(l:List Int):∀k,(nQ l k).1.length<=k
 | 0=>by simp[nQ]
 | k+1=>by
  have:=Pj l k;simp only[nQ]
  split
  ·simp;omega
  ·omega
end
section
def rG(l:List Int):Int:=if l.any isLet then -1 else l.count 10
theorem Lx{l:List Int}{n:Nat}(h:rG l=n):l.any isLet=false/\l.count 10=n:=by
 unfold rG at h
 split at h
 ·omega
 ·rename_i h';exact⟨by simpa using h',by omega⟩
theorem J5{l:List Int}{n:Nat}(h:l.any isLet=false)(h':l.count 10=n):rG l=n:=by unfold rG;rw[h];simp[h']
theorem W8{l:List Int}{n:Nat}(h:rG l=n):rG (l++[32])=n:=by obtain⟨h1,h2⟩:=Lx h;exact J5 (by rw[List.any_append,h1];rfl) (by rw[List.count_append,h2];rfl)
theorem Xd{l:List Int}{n:Nat}(h:rG l=n):rG (l++[10])=(n+1:Nat):=by obtain⟨h1,h2⟩:=Lx h;exact J5 (by rw[List.any_append,h1];rfl) (by rw[List.count_append,h2];rfl)
def seg(l:List Int)(a b:Nat):List Int:=(l.drop a).take (b-a)
theorem Jh(l:List Int)(a:Nat):seg l a a=[]:=by simp[seg]
theorem uM(l:List Int){a k:Nat}(ha:a<=k)(hk:k<l.length):seg l a (k+1)=seg l a k++[l[k]]:=by unfold seg;rw[show k+1-a=(k-a)+1 by omega,YU (by simp;omega)];congr 2;simp[show a+(k-a)=k by omega]
theorem seg_end(l:List Int)(a:Nat):seg l a l.length=l.drop a:=by unfold seg;exact YY (by simp)
def rJ(o:List Sp)(i:Nat):Nat:=if i=0 then 0 else((o[i-1]?).map Sp.up).getD 0
theorem AO(o:List Sp)(x:Sp){i:Nat}(h:i<=o.length):rJ (o++[x]) i=rJ o i:=by
 unfold rJ;by_cases hi:i=0
 ·simp[hi]
 ·rw[YO hi,YO hi,YN (by omega)]
theorem zW(o:List Sp)(x:Sp):rJ (o++[x]) (o.length+1)=x.up:=by simp[rJ]
structure BP(l:List Int)(o:List Sp)(i:Nat)(s:Sp):Prop where
 a:rJ o i<=s.fr
 b:0<i->s.fr≠rJ o i
 c:s.fr<s.up
 d:s.up<=l.length
 e:rG (seg l (rJ o i) s.fr)=s.ends
 f:∀k,s.fr<=k->k<s.up->rD l k=true
theorem BP.old{l:List Int}{o:List Sp}{x s:Sp}{i:Nat}(h:BP l o i s)(hi:i<=o.length):BP l (o++[x]) i s:=by obtain⟨a,b,c,d,e,f⟩:=h;refine⟨?_,?_,c,d,?_,f⟩<;>rw[AO o x hi]<;>assumption
structure Inv(l:List Int)(k:Nat)(c:Sc):Prop where
 good:∀i s,c.out[i]? =some s->BP l c.out i s
 up:rJ c.out c.out.length<=k
 out:c.ins=false->rG (seg l (rJ c.out c.out.length) k)=c.s.ends/\(0<c.out.length->rJ c.out c.out.length<k)
 ins:c.ins=true->rJ c.out c.out.length<=c.s.fr/\(0<c.out.length->c.s.fr≠rJ c.out c.out.length)/\c.s.fr<k/\rG (seg l (rJ c.out c.out.length) c.s.fr)=c.s.ends/\∀j,c.s.fr<=j->j<k->rD l j=true
theorem Gx{l:List Int}{k:Nat}{c:Sc}(h:Inv l k c)(hk:k<=l.length)(hi:c.ins=true):(∀i s,(c.out++[⟨c.s.fr,k,c.s.ends,c.s.sp⟩])[i]? =some s->BP l (c.out++[⟨c.s.fr,k,c.s.ends,c.s.sp⟩]) i s):=by
 obtain⟨h1,h2,h3,h4,h5⟩:=h.ins hi;intro i s hs;rcases Z6 i c.out.length with lN | qU
 ·rw[YN lN]at hs;exact(h.good i s hs).old (by omega)
 ·rw[YQ qU]at hs;have Ep:i=c.out.length:=by have:=(YT.1 hs).1;simp at this;omega
  subst Ep;simp at hs;subst hs;refine⟨?_,?_,h3,hk,?_,h5⟩
  ·rw[AO _ _ (X7 _)];exact h1
  ·rw[AO _ _ (X7 _)];exact h2
  ·rw[AO _ _ (X7 _)];exact h4
theorem inv_all(l:List Int):∀k,k<=l.length->Inv l k (sc l k):=by
 intro k;induction k with
 | zero=>intro _;exact⟨by simp[sc],by simp[sc,rJ],λ_=>by simp[sc,rJ,seg,rG,Sp.nil],by simp[sc]⟩
 | succ k ih=>
  intro hk;have h:=ih (by omega);have lN:k<l.length:=by omega
  have hu:l[k]?.getD 0=l[k]:=by simp[lN]
  have oR:=λhi=>Gx h (by omega) hi;simp only[sc,xd];rw[hu];by_cases Ge:l[k]=32
  ·rw[YP Ge];rcases hi:(sc l k).ins with _ | _
   ·obtain⟨e1,e2⟩:=h.out hi;refine⟨h.good,aBN h.up,λ_=>⟨?_,λhp=>aC3 (e2 hp)⟩,λhi=>by cases hi⟩;show rG (seg l (rJ (sc l k).out (sc l k).out.length) (k+1))=_;rw[uM l h.up lN,Ge];exact W8 e1
   ·refine⟨oR hi,?_,λ_=>⟨?_,λ_=>?_⟩,λhi=>by cases hi⟩
    ·simp[rJ]
    ·show rG (seg l (rJ ((sc l k).out++[_]) ((sc l k).out++[_]).length) (k+1))=_;rw[YM,aBC,zW,uM l (X7 _) lN,Jh,Ge];rfl
    ·simp[rJ]
  ·rw[YO Ge];by_cases zK:l[k]=10
   ·rw[YP zK];rcases hi:(sc l k).ins with _ | _
    ·obtain⟨e1,e2⟩:=h.out hi;refine⟨h.good,aBN h.up,λ_=>⟨?_,λhp=>aC3 (e2 hp)⟩,λhi=>by cases hi⟩;show rG (seg l (rJ (sc l k).out (sc l k).out.length) (k+1))=_;rw[uM l h.up lN,zK];exact Xd e1
    ·refine⟨oR hi,?_,λ_=>⟨?_,λ_=>?_⟩,λhi=>by cases hi⟩
     ·simp[rJ]
     ·show rG (seg l (rJ ((sc l k).out++[_]) ((sc l k).out++[_]).length) (k+1))=_;rw[YM,aBC,zW,uM l (X7 _) lN,Jh,zK];rfl
     ·simp[rJ]
   ·rw[YO zK];have hL:rD l k=true:=(by simp[rD,isLet,lN,Ge,zK]);rcases hi:(sc l k).ins with _ | _
    ·obtain⟨e1,e2⟩:=h.out hi;refine⟨h.good,aBN h.up,λhi=>by simp at hi,λ_=>⟨h.up,λhp=>Nat.ne_of_gt (e2 hp),Nat.lt_succ_self k,e1,λj h1 h2=>?_⟩⟩;have:j=k:=(by simp at h1;omega);rw[this];exact hL
    ·obtain⟨e1,e2,e3,e4,e5⟩:=h.ins hi;refine⟨h.good,aBN h.up,λLC=>by simp[hi]at LC,λ_=>⟨e1,e2,aC3 e3,e4,λj h1 h2=>?_⟩⟩;rcases Nat.lt_succ_iff_lt_or_eq.1 h2 with h2 | rfl
     ·exact e5 j h1 h2
     ·exact hL
theorem whole(l:List Int):(∀i s,(nV l)[i]? =some s->BP l (nV l) i s)/\0<=rG (l.drop (rJ (nV l) (nV l).length))/\rJ (nV l) (nV l).length<=l.length:=by
 have h:=inv_all l l.length (X7 _);unfold nV;rcases hi:(sc l l.length).ins with _ | _
 ·rw[YO (by simp)];obtain⟨e1,_⟩:=h.out hi;rw[seg_end]at e1;exact⟨h.good,by rw[e1];omega,h.up⟩
 ·rw[YP rfl];refine⟨Gx h (X7 _) hi,?_,?_⟩
  ·rw[YM,aBC,zW];simp[rG]
  ·rw[YM,aBC,zW];exact X7 _
end
section
open Go.RowKit
theorem EW(t l:List Int)(pre:List Sp):lT t l pre=(pre.mapIdx (λi s=>L8 t l (decide (i=0)) s),(pre.mapIdx λi s=>vX t l (decide (i=0)) s).any id):=by
 have gen:∀(n:Nat) (pre:List Sp),pre.length=n->lT t l pre=(pre.mapIdx (λi s=>L8 t l (decide (i=0)) s),(pre.mapIdx λi s=>vX t l (decide (i=0)) s).any id):=by
  intro n;induction n with
  | zero=>intro pre h;obtain rfl:=aAO.1 h;rfl
  | succ n ih=>intro pre h;have mI:pre≠[]:=(by intro e;rw[e]at h;simp at h);obtain⟨p,s,rfl⟩:∃p s,pre=p++[s]:=⟨pre.dropLast,pre.getLast mI,(aCP mI).symm⟩;have hl:p.length=n:=(by simpa using h);rw[qY,r6,ih p hl,List.mapIdx_concat,List.mapIdx_concat];have e:(List.mapIdx (λi s=>L8 t l (decide (i=0)) s) p).isEmpty=decide (p.length=0):=(by cases p<;>simp);simp only[e,List.any_append,List.any_cons,List.any_nil,Bool.or_false,id]
 exact gen _ pre rfl
def behind(u:List Int):Nat:=1+(u.drop (rJ (nV u) (nV u).length)).count 10
structure Mv(n b i:Nat)(x y:Sp):Prop where
 fr:x.fr=y.fr+n
 up:x.up=y.up+n
 ends:x.ends=y.ends+if i=0 then b else 0
 sp:0<i->x.sp=y.sp
end
section
open Go.RowKit
structure Ab where
 us:List Int
 ends:Nat
 sp:Bool
structure St where
 cur:List Int
 ends:Nat
 sp:Bool
 out:List Ab
def St.SD(c:St):Bool:=c.sp && decide (c.ends=0) && !c.out.isEmpty
def XU(c:St)(u:Int):St:=
 if u=32 then(if c.cur=[]then⟨[],c.ends,true,c.out⟩else⟨[],0,true,c.out++[⟨c.cur,c.ends,c.SD⟩]⟩)
 else if u=10 then(if c.cur=[]then⟨[],c.ends+1,c.sp,c.out⟩else⟨[],1,false,c.out++[⟨c.cur,c.ends,c.SD⟩]⟩)
 else⟨c.cur++[u],c.ends,c.sp,c.out⟩
def St.nil:St:=⟨[],0,false,[]⟩
def Cs(l:List Int):St:=l.foldl XU St.nil
def finA(c:St):List Ab:=if c.cur=[]then c.out else c.out++[⟨c.cur,c.ends,c.SD⟩]
def Ss(l:List Int):List Ab:=finA (Cs l)
theorem SB(l:List Int)(u:Int):Cs (l++[u])=XU (Cs l) u:=by simp[Cs]
def DB(l:List Int)(pre:List Sp):List Ab:=pre.foldl (λo s=>o++[⟨part l s,s.ends,vW o.isEmpty s⟩]) []
theorem yI(l:List Int)(pre:List Sp)(s:Sp):DB l (pre++[s])=DB l pre++[⟨part l s,s.ends,vW (DB l pre).isEmpty s⟩]:=by simp[DB]
theorem Da(o:List Ab)(s:Sp):vW o.isEmpty s=(s.sp && decide (s.ends=0) && !o.isEmpty):=rfl
theorem run_sc(l:List Int):∀k,k<=l.length->Cs (l.take k)=⟨if(sc l k).ins then seg l (sc l k).s.fr k else [],(sc l k).s.ends,(sc l k).s.sp,DB l (sc l k).out⟩/\((sc l k).ins=true->(sc l k).s.fr<k):=by
 intro k;induction k with
 | zero=>intro _;simp[Cs,sc,DB,St.nil,Sp.nil]
 | succ k ih=>
  intro hk;have lN:k<l.length:=by omega
  obtain⟨h1,h2⟩:=ih (by omega);have hu:l[k]?.getD 0=l[k]:=by simp[lN]
  rw[YU lN,SB,h1];simp only[sc,xd,hu];unfold XU;by_cases Ge:l[k]=32
  ·simp only[YP Ge];rcases hi:(sc l k).ins with _ | _
   ·simp
   ·have mI:seg l (sc l k).s.fr k≠[]:=(by have:=h2 hi;intro he;have:=aCV List.length he;simp[seg]at this;omega);simp only[Z4,YO mI,Y9,BT,yI,Da];exact⟨rfl,λh=>by cases h⟩
  ·simp only[YO Ge];by_cases zK:l[k]=10
   ·simp only[YP zK];rcases hi:(sc l k).ins with _ | _
    ·simp
    ·have mI:seg l (sc l k).s.fr k≠[]:=(by have:=h2 hi;intro he;have:=aCV List.length he;simp[seg]at this;omega);simp only[Z4,YO mI,Y9,BT,yI,Da];exact⟨rfl,λh=>by cases h⟩
   ·simp only[YO zK];rcases hi:(sc l k).ins with _ | _
    ·simp[uM l (X7 k) lN,Jh]
    ·simp[hi,uM l (Ra (h2 hi)) lN,aC3 (h2 hi)]
theorem Se(l:List Int):Ss l=DB l (nV l):=by
 obtain⟨h1,h2⟩:=run_sc l l.length (X7 _);rw[YY (X7 _)]at h1;unfold Ss nV;rw[h1];unfold finA;rcases hi:(sc l l.length).ins with _ | _
 ·simp
 ·have mI:seg l (sc l l.length).s.fr l.length≠[]:=by have:=h2 hi;intro he;have:=aCV List.length he;simp[seg]at this;omega
  simp only[Z4,YO mI,yI,Da];rfl
def vw(x:Wd):Int×Int×Int×Int:=(x.w,x.gap,x.forced,x.up-x.fr)
def va(t:List Int)(a:Ab):Int×Int×Int×Int:=(lU (oC t a.us).sum,if a.sp then lU (adv t 32)else 0,a.ends,a.us.length)
def oa(t:List Int)(a:Ab):Bool:=mG (oC t a.us).sum || (a.sp && mG (adv t 32))
theorem JI(t l:List Int)(pre:List Sp):(∀s∈pre,s.fr<s.up/\s.up<=l.length)->∀(c:List Wd×Bool) (o:List Ab),c.1.map vw=o.map (va t)->c.2=o.any (oa t)->c.1.isEmpty=o.isEmpty-> (pre.foldl (r6 t l) c).1.map vw=(pre.foldl (λo s=>o++[⟨part l s,s.ends,vW o.isEmpty s⟩]) o).map (va t)/\(pre.foldl (r6 t l) c).2=(pre.foldl (λo s=>o++[⟨part l s,s.ends,vW o.isEmpty s⟩]) o).any (oa t):=by
 induction pre with
 | nil=>intro _ c o h1 h2 h3;exact⟨h1,h2⟩
 | cons s pre ih=>
  intro hb c o h1 h2 h3;have hs:=hb s (by simp);rw[aB0,aB0];refine ih (λs hs=>hb s (by simp[hs])) _ _ ?_ ?_ (by rw[Bool.eq_iff_iff];simp[r6])
  ·simp only[r6,ZJ,h1,h3,Y6,UU];congr 1;have hp:((part l s).length:Int)=(s.up:Int)-s.fr:=(by simp[part];omega);simp[vw,va,L8,hp]
  ·simp[r6,h2,h3,vX,oa]
theorem Q7(t l:List Int):(ng t l).1.map vw=(Ss l).map (va t)/\(ng t l).2=(Ss l).any (oa t):=by rw[Se];exact JI t l (nV l) (λs hs=>⟨(Ae l s hs).1,(Ae l s hs).2.1⟩) ([],false) [] rfl rfl rfl
theorem zM{a b:Int}(h:a<=b):lU a<=lU b:=by
 unfold lU;repeat' split
 all_goals omega
theorem N0{a:Int}(h:0<=a):lU a<=a/\0<=lU a/\lU (lU a)=lU a:=by
 unfold lU
 repeat' split
 all_goals omega
theorem Yv{l:List Int}(h:∀x∈l,0<=x):0<=l.sum:=by
 induction l with
 | nil=>simp
 | cons a r ih=>have h1:=h a (by simp);have h2:=ih λx hx=>h x (by simp[hx]);simp only[ZF];omega
theorem Bx{t:List Int}(h:∀x∈t,0<=x)(u:Int):0<=adv t u:=by
 unfold adv;rcases Z6 u.toNat t.length with hl | hl
 ·rw[YH hl];exact h _ (YJ hl)
 ·rw[ZG hl];simp
theorem JA{t:List Int}(h:∀x∈t,0<=x)(l:List Int):0<=(oC t l).sum:=Yv λx hx=>by
 simp only[oC,Z7]at hx;obtain⟨u,_,rfl⟩:=hx;exact Bx h u
def wt(t:List Int)(a:Ab):Int:=(oC t a.us).sum+if a.sp then adv t 32 else 0
def NA(t:List Int)(l:List Ab):Int:=(l.map (wt t)).sum
theorem Ds(t:List Int)(l:List Ab)(a:Ab):NA t (l++[a])=NA t l+wt t a:=by simp[NA]
theorem RV(t l:List Int)(u:Int):(oC t (l++[u])).sum=(oC t l).sum+adv t u:=by simp[oC]
theorem OY{t:List Int}(h:∀x∈t,0<=x)(c:St):(if c.SD=true then adv t 32 else 0)<=if c.sp=true then adv t 32 else 0:=by
 have h1:=Bx h 32;rcases hs:c.sp with _ | _
 ·have:c.SD=false:=by simp[St.SD,hs]
  simp[this]
 ·simp only[Z4];split<;>omega
theorem run_wt{t:List Int}(h:∀x∈t,0<=x)(l:List Int):∀c:St,NA t (l.foldl XU c).out+(oC t (l.foldl XU c).cur).sum+(if(l.foldl XU c).sp=true then adv t 32 else 0)<=NA t c.out+(oC t c.cur).sum+(if c.sp=true then adv t 32 else 0)+(oC t l).sum:=by
 induction l with
 | nil=>intro c;simp[oC];exact aC1 _
 | cons u r ih=>
  intro c;rw[aB0];refine aDA (ih _) ?_;have e:(oC t (u::r)).sum=adv t u+(oC t r).sum:=by simp[oC]
  rw[e]
  suffices hs:NA t (XU c u).out+(oC t (XU c u).cur).sum+(if(XU c u).sp=true then adv t 32 else 0)<=NA t c.out+(oC t c.cur).sum+(if c.sp=true then adv t 32 else 0)+adv t u by omega
  have h1:=Bx h 32;have h2:=Bx h u;have h3:=OY h c;have e0:(oC t []).sum=0:=rfl;unfold XU;by_cases Ge:u=32
  ·subst Ge;rw[YP rfl];by_cases hc:c.cur=[]
   ·rw[YP hc,hc];simp only[Z4,e0];split<;>omega
   ·rw[YO hc];simp only[Z4,e0,Ds,wt];omega
  ·rw[YO Ge];by_cases zK:u=10
   ·rw[YP zK];by_cases hc:c.cur=[]
    ·rw[YP hc,hc];simp only[e0];omega
    ·rw[YO hc];simp only[e0,Ds,wt,Y9,BT];omega
   ·rw[YO zK];simp only[RV];omega
theorem abs_wt{t:List Int}(h:∀x∈t,0<=x)(l:List Int):NA t (Ss l)<=(oC t l).sum:=by
 have h1:=run_wt h l St.nil;have h2:=JA h (Cs l).cur;have h3:=OY h (Cs l);have h4:=Bx h 32;have e0:NA t St.nil.out+(oC t St.nil.cur).sum+(if St.nil.sp=true then adv t 32 else 0)=0:=rfl;rw[e0]at h1;unfold Ss finA;have h5:(0:Int)<=if(Cs l).sp=true then adv t 32 else 0:=by split<;>omega
 change NA t (Cs l).out+(oC t (Cs l).cur).sum+(if(Cs l).sp=true then adv t 32 else 0)<=_ at h1
 split
 ·omega
 ·rw[Ds,wt];dsimp only;omega
end
section
open Go.RowKit
def Nn(x:Wd):Prop:=0<=x.w/\0<=x.gap/\lU x.w=x.w
def S1(l:List Wd):Int:=(l.map λx=>x.w+x.gap).sum
theorem UJ(l:List Wd){k:Nat}(h:k<l.length):S1 (l.take (k+1))=S1 (l.take k)+(l[k].w+l[k].gap):=by rw[YU h];unfold S1;rw[ZJ,Xn];simp only[Y6,UU,ZF,List.sum_nil];omega
theorem Ux(l:List Wd)(hn:∀x∈l,Nn x)(T:Int):∀k,k<=l.length->S1 (l.take k)<=T->0<=T-> 0<=(oM l k).row/\(oM l k).row<=S1 (l.take k)/\0<=(oM l k).vK/\(oM l k).vK<=lU T/\(oM l k).least<=(rh (oM l k)).vK:=by
 intro k;induction k with
 | zero=>intro _ _ h0;have:=N0 h0;simp only[oM,rh,ZB,S1,UU,List.sum_nil,lU];omega
 | succ k ih=>
  intro hk hT h0;have lN:k<l.length:=by omega
  obtain⟨x1,x2,x3⟩:=hn l[k] (YJ lN);rw[UJ l lN]at hT⊢;obtain⟨h1,h2,h3,h4,h5⟩:=ih (by omega) (by omega) h0;rw[sU l lN];have hm:lU (oM l k).row<=lU T:=zM (by omega);have hl:pS k (oM l k).least l[k]<=max (oM l k).least l[k].w\/k=0:=by
   unfold pS;by_cases h0:k=0
   ·exact .inr h0
   ·left;split<;>omega
  unfold wU;rcases hs:qd k l[k]with _ | _
  ·simp only[Y9,BT,rh]at h5⊢;have m1:lU (oM l k).row<=lU ((oM l k).row+(l[k].gap+l[k].w)):=zM (by omega);have m2:lU l[k].w<=lU ((oM l k).row+(l[k].gap+l[k].w)):=zM (by omega);rw[x3]at m2;rcases hl with hl | hl
   ·refine⟨by omega,by omega,by omega,by omega,by omega⟩
   ·subst hl;simp[qd]at hs
  ·simp only[Z4,rh]at h5⊢;refine⟨x1,by omega,by omega,by omega,?_⟩;rw[x3];rcases hl with hl | hl
   ·omega
   ·unfold pS;rw[YP (.inl hl)];omega
theorem Qf(l:List Wd)(hn:∀x∈l,Nn x)(T:Int)(hT:S1 l<=T)(h0:0<=T):(xy l).1<=(xy l).2.1/\(xy l).2.1<=lU T:=by obtain⟨h1,h2,h3,h4,h5⟩:=Ux l hn T l.length (X7 _) (by rw[YY (X7 _)];exact hT) h0;rw[YY (X7 _)]at h2;refine⟨h5,?_⟩;have:lU (oM l l.length).row<=lU T:=zM (by omega);simp only[xy,rh];omega
theorem nn_vw{t:List Int}(ht:∀x∈t,0<=x){L:List Wd}{A:List Ab}(h:L.map vw=A.map (va t)):(∀x∈L,Nn x)/\S1 L<=NA t A:=by
 induction L generalizing A with
 | nil=>
  cases A with
  | nil=>exact⟨by simp,by simp[S1,NA]⟩
  | cons a A=>simp at h
 | cons x L ih=>
  cases A with
  | nil=>simp at h
  | cons a A=>
   simp only[Y6,List.cons.injEq]at h;obtain⟨h1,h2⟩:=ih h.2;have hx:=h.1;simp only[vw,va,Prod.mk.injEq]at hx;obtain⟨e1,e2,-,-⟩:=hx;have a1:=N0 (JA ht a.us);have a2:=N0 (Bx ht 32);have g1:0<=x.gap/\x.gap<=if a.sp=true then adv t 32 else 0:=by rw[e2];split<;>omega
   refine⟨λy hy=>?_,?_⟩
   ·rcases Y7.1 hy with rfl | hy
    ·exact⟨by omega,g1.1,by rw[e1];exact a1.2.2⟩
    ·exact h1 y hy
   ·have e:S1 (x::L)=(x.w+x.gap)+S1 L:=(by simp[S1]);have e':NA t (a::A)=wt t a+NA t A:=(by simp[NA]);rw[e,e',wt];omega
theorem order(t l:List Int)(ht:∀x∈t,0<=x):(xy (ng t l).1).1<=(xy (ng t l).1).2.1/\(xy (ng t l).1).2.1<=lU (oC t l).sum:=by obtain⟨h1,h2⟩:=nn_vw ht (Q7 t l).1;exact Qf _ h1 _ (aDA h2 (abs_wt ht l)) (JA ht l)
end
end Go.Proofs.YtjhingednpjogaaGreat
