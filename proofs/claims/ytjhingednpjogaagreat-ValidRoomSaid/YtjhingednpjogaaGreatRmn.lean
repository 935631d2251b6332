/- Lemmas for ValidRoom; laid together by a program. -/
import Derived.Test.YtjhingednpjogaaGreatRsr
set_option linter.all false
set_option maxRecDepth 100000
set_option maxHeartbeats 8000000
open Go.RowKit
namespace Go.Proofs.YtjhingednpjogaaGreat
open Go.Proofs.Tryz
section
attribute [local go_sem] lp
section
variable{P:Program}{ops:Array Oper}{Q:Exit->Act->World->Prop}{md:Region.Mode}{S:World->Prop}
end
end
section
theorem RY(x:Int)(h0:0<=x)(h1:x<9223372036854775808):bits .and .i64 x 1=x % 2:=by
 have e:(2:Int) ^ 63=9223372036854775808:=by decide
 have h:=bits_mask .i64 63 (by decide) (λn h0 h1=>by rw[e]at h1;exact YG _ ⟨by omega,by omega⟩) 1 (by decide) x h0 (by rw[e];exact h1);simpa using h
theorem NU(A f all:Int)(w:World)(hA:0<=A/\A<9223372036854775808)(hf:0<=f/\f<=all)(mO:0<all/\all<4611686018427387904): Calls prog 205 #[.int .i64 A,.int .i64 f,.int .i64 all] w λe w'=>e= .returned (.int .i64 (A*f / all))/\w'=w:=by
 go_enter func205,ntmps205;go_wp2_with fail;go_loopw [7,8,9] (λqv rv kv wr=>∃(k:Nat) (q r:Int),k<=63/\qv= .int .i64 q/\rv= .int .i64 r/\kv= .int .i64 ((k:Int)-1)/\(0<=r/\r<all)/\Hid (q*all+r=A / 2 ^ k*f)/\w=wr) (λ_ _ kv _=>(intOf kv+1).toNat);case atStart=>refine⟨63,0,0,X7 _,rfl,rfl,rfl,⟨by omega,mO.1⟩,X6 ?_,rfl⟩;rw[Int.ediv_eq_zero_of_lt hA.1 (by have:(2:Int)^63=9223372036854775808:=(by decide);omega)];simp
 case round=>
  obtain⟨k,q,r,hk,rfl,rfl,rfl,hr,HQ,rfl⟩:=hrel;rcases k with _ | j
  ·have E:Hid (q=A*f / all):=X6 (GJ A f all q r hr (by rw[HQ.out];simp));have g0:decide (0<=((0:Nat):Int)-1)=false:=(by decide);go_wp2_with fail;go_ret;exact⟨by rw[E.out];rfl,rfl⟩
  ·obtain⟨P,hP⟩:∃P,P=A / 2 ^ j:=⟨_,rfl⟩;have L5:(0:Int)<2 ^ j:=Int.pow_pos (by decide);have hP2:A / 2 ^ (j+1)=P / 2:=(by rw[hP,aBJ,Int.ediv_ediv_of_nonneg (aDB L5)]);have hP0:0<=P/\P<=A:=(by rw[hP];exact⟨aCO hA.1 (aDB L5),Int.ediv_le_self _ hA.1⟩);have hq:=HQ.out;rw[hP2]at hq;have hqb:=AE (A:=P / 2) (by omega) hf mO.1 hr hq;have ej:((j+1:Nat):Int)-1=(j:Int):=(by omega);rw[ej];have g0:decide (0<=(j:Int))=true:=YC (by omega);obtain⟨bit,hbit⟩:∃bit,bit=P % 2:=⟨_,rfl⟩;have SL:=X6 (Gz (P / 2) f all q r bit mO.1 hf.1 hf.2 (by omega) hr hq);have Mf:=X6 (Gz (P / 2) f all q r 0 mO.1 hf.1 hf.2 (Or.inl rfl) hr hq);have hPe:2*(P / 2)+bit=P:=(by omega);have HPE:=X6 (And.intro hPe (And.intro hP hbit));have hb01:bit=0\/bit=1:=(by omega);have HBT:Hid (bits .and .i64 (A / 2 ^ j) 1=bit):=X6 (by rw[<-hP,hbit];exact RY P (by omega) (by omega));clear hq hP2 hPe ej hbit hP HQ;have w1:IntKind.i64.wrap (2*q)=2*q:=YG _ ⟨by omega,by omega⟩;have w2:IntKind.i64.wrap (all-r)=all-r:=YG _ ⟨by omega,by omega⟩;have w3:IntKind.i64.wrap (all-f)=all-f:=YG _ ⟨by omega,by omega⟩;have wj:IntKind.i64.wrap ((j:Int)-1)=(j:Int)-1:=YG _ ⟨by omega,by omega⟩;by_cases h1:all-r<=r
   ·have d1:decide (all-r<=r)=true:=YC h1;have w4:IntKind.i64.wrap (r-(all-r))=r-(all-r):=YG _ ⟨by omega,by omega⟩;have w5:IntKind.i64.wrap (2*q+1)=2*q+1:=YG _ ⟨by omega,by omega⟩;go_upto_region 11 with(fail)
    obtain⟨q2,QF⟩:∃q2,q2=nS r r all (q+q):=⟨_,rfl⟩;obtain⟨r2,L6⟩:∃r2,r2=nG r r all:=⟨_,rfl⟩;have eq2:2*q+1=q2:=(by rw[QF];unfold nS;rw[YP (by omega)];omega);have er2:r-(all-r)=r2:=(by rw[L6];unfold nG;rw[YP (by omega)];omega);have HSC:Hid ((0<=(if bit=1 then nG r2 f all else r2)/\(if bit=1 then nG r2 f all else r2)<all)/\(if bit=1 then nS r2 f all q2 else q2)*all+(if bit=1 then nG r2 f all else r2)=P*f):=X6 (by have h:=SL.out;rw[HPE.1]at h;simp only[<-QF,<-L6]at h;exact h);rw[eq2,er2];have b2:0<=r2/\r2<all/\0<=q2/\q2<=P:=(by have h:=Mf.out;simp only[<-QF,<-L6,show¬(0:Int)=1 by decide,BT]at h;have h3:=AE (A:=2*(P / 2)+0) (by omega) hf mO.1 h.1 h.2;omega);clear eq2 er2 QF L6 SL Mf d1 h1;have HBU:=HBT.out;by_cases nY:bit=1
    ·have e1:(bit == 1)=true:=ZR.2 nY;by_cases h2:all-f<=r2
     ·have d2:decide (all-f<=r2)=true:=YC h2;have w4:IntKind.i64.wrap (r2-(all-f))=r2-(all-f):=YG _ ⟨by omega,by omega⟩;have Ur:Hid (q2+1<=P):=X6 (by have h:=HSC.out;simp only[YP nY]at h;unfold nG nS at h;simp only[YP (show all<=r2+f by omega)]at h;exact(AE hP0.1 hf mO.1 h.1 h.2).2);have w5:IntKind.i64.wrap (q2+1)=q2+1:=YG _ ⟨by omega,by have:=Ur.out;omega⟩;go_wp2_with fail;go_roundw;case rel=>
       have h:=HSC.out;simp only[YP nY]at h;unfold nG nS at h;simp only[YP (show all<=r2+f by omega)]at h;refine⟨j,_,_,by omega,rfl,rfl,by go_num,?_,X6 ?_,trivial⟩
       ·omega
       ·rw[<-HPE.2.1,<-h.2,show r2-(all-f)=r2+f-all by omega]
      case measure=>simp[intOf]<;>omega
     ·have d2:decide (all-f<=r2)=false:=X9 h2;have w4:IntKind.i64.wrap (r2+f)=r2+f:=YG _ ⟨by omega,by omega⟩;go_wp2_with fail;go_roundw;case rel=>have h:=HSC.out;simp only[YP nY]at h;unfold nG nS at h;simp only[YO (show¬all<=r2+f by omega)]at h;exact⟨j,_,_,by omega,rfl,rfl,by go_num,h.1,X6 (by rw[<-HPE.2.1];exact h.2),trivial⟩
      case measure=>simp[intOf]<;>omega
    ·have e1:(bit == 1)=false:=ZO.2 nY;go_wp2_with fail;go_roundw;case rel=>have h:=HSC.out;simp only[YO nY]at h;exact⟨j,_,_,by omega,rfl,rfl,by go_num,h.1,X6 (by rw[<-HPE.2.1];exact h.2),trivial⟩
     case measure=>simp[intOf]<;>omega
   ·have d1:decide (all-r<=r)=false:=X9 h1;have w4:IntKind.i64.wrap (2*r)=2*r:=YG _ ⟨by omega,by omega⟩;go_upto_region 11 with(fail)
    obtain⟨q2,QF⟩:∃q2,q2=nS r r all (q+q):=⟨_,rfl⟩;obtain⟨r2,L6⟩:∃r2,r2=nG r r all:=⟨_,rfl⟩;have eq2:2*q=q2:=(by rw[QF];unfold nS;rw[YO (by omega)];omega);have er2:2*r=r2:=(by rw[L6];unfold nG;rw[YO (by omega)];omega);have HSC:Hid ((0<=(if bit=1 then nG r2 f all else r2)/\(if bit=1 then nG r2 f all else r2)<all)/\(if bit=1 then nS r2 f all q2 else q2)*all+(if bit=1 then nG r2 f all else r2)=P*f):=X6 (by have h:=SL.out;rw[HPE.1]at h;simp only[<-QF,<-L6]at h;exact h);rw[eq2,er2];have b2:0<=r2/\r2<all/\0<=q2/\q2<=P:=(by have h:=Mf.out;simp only[<-QF,<-L6,show¬(0:Int)=1 by decide,BT]at h;have h3:=AE (A:=2*(P / 2)+0) (by omega) hf mO.1 h.1 h.2;omega);clear eq2 er2 QF L6 SL Mf d1 h1;have HBU:=HBT.out;by_cases nY:bit=1
    ·have e1:(bit == 1)=true:=ZR.2 nY;by_cases h2:all-f<=r2
     ·have d2:decide (all-f<=r2)=true:=YC h2;have w4:IntKind.i64.wrap (r2-(all-f))=r2-(all-f):=YG _ ⟨by omega,by omega⟩;have Ur:Hid (q2+1<=P):=X6 (by have h:=HSC.out;simp only[YP nY]at h;unfold nG nS at h;simp only[YP (show all<=r2+f by omega)]at h;exact(AE hP0.1 hf mO.1 h.1 h.2).2);have w5:IntKind.i64.wrap (q2+1)=q2+1:=YG _ ⟨by omega,by have:=Ur.out;omega⟩;go_wp2_with fail;go_roundw;case rel=>
       have h:=HSC.out;simp only[YP nY]at h;unfold nG nS at h;simp only[YP (show all<=r2+f by omega)]at h;refine⟨j,_,_,by omega,rfl,rfl,by go_num,?_,X6 ?_,trivial⟩
       ·omega
       ·rw[<-HPE.2.1,<-h.2,show r2-(all-f)=r2+f-all by omega]
      case measure=>simp[intOf]<;>omega
     ·have d2:decide (all-f<=r2)=false:=X9 h2;have w4:IntKind.i64.wrap (r2+f)=r2+f:=YG _ ⟨by omega,by omega⟩;go_wp2_with fail;go_roundw;case rel=>have h:=HSC.out;simp only[YP nY]at h;unfold nG nS at h;simp only[YO (show¬all<=r2+f by omega)]at h;exact⟨j,_,_,by omega,rfl,rfl,by go_num,h.1,X6 (by rw[<-HPE.2.1];exact h.2),trivial⟩
      case measure=>simp[intOf]<;>omega
    ·have e1:(bit == 1)=false:=ZO.2 nY;go_wp2_with fail;go_roundw;case rel=>have h:=HSC.out;simp only[YO nY]at h;exact⟨j,_,_,by omega,rfl,rfl,by go_num,h.1,X6 (by rw[<-HPE.2.1];exact h.2),trivial⟩
     case measure=>simp[intOf]<;>omega
end
section
attribute [local go_sem] lp
theorem DH{l:List Nat}{f g:Nat->List Value}(h:∀k∈l,f k=g k):l.flatMap f=l.flatMap g:=by rw[aBT,aBT,aAX h]
def rr(x:It):List Value:=lj x.s++[.int .i64 x.left,.int .i64 x.right,.int .i64 x.mY,.int .i64 x.base,.int .i64 x.guess,.int .i64 x.factor,.bool x.held,.int .i64 x.width]
def xP(M:Nat->It)(n:Nat):List Value:=(List.range n).flatMap λk=>rr (M k)
theorem PE(x:It):(rr x).length=51:=rfl
theorem xF(M:Nat->It)(n:Nat):xP M (n+1)=xP M n++rr (M n):=by simp[xP,Xb]
theorem tg(M:Nat->It):∀n,(xP M n).length=n*51
 | 0=>rfl
 | n+1=>by rw[xF,YM,tg M n,PE];omega
theorem Pb(M:Nat->It):∀(n k j:Nat),k<n->j<51->(xP M n)[k*51+j]? =(rr (M k))[j]?
 | 0,k,j,h,_=>by omega
 | n+1,k,j,h,hj=>by
  rw[xF];by_cases e:k=n
  ·subst e;rw[YQ (by rw[tg];omega),tg,show k*51+j-k*51=j by omega]
  ·rw[YN (by rw[tg];omega)];exact Pb M n k j (by omega) hj
theorem Ks(M M2:Nat->It)(k j:Nat)(u:Value)(hj:j<51)(hk:(rr (M k)).set j u=rr (M2 k))(mI:∀i,i≠k->rr (M2 i)=rr (M i)):∀n,k<n->(xP M n).set (k*51+j) u=xP M2 n
 | 0,h=>by omega
 | n+1,h=>by
  rw[xF,xF];by_cases e:k=n
  ·subst e;rw[aAI _ _ (by rw[tg];omega),tg,show k*51+j-k*51=j by omega,hk];congr 1;unfold xP;exact DH λi hi=>(mI i (by have:=ZK.1 hi;omega)).symm
  ·rw[List.set_append_left _ _ (by rw[tg];omega),Ks M M2 k j u hj hk mI n (by omega),mI n (λe2=>e e2.symm)]
theorem M6{M M2:Nat->It}{n:Nat}(h:∀k,k<n->rr (M2 k)=rr (M k)):xP M2 n=xP M n:=by unfold xP;exact DH λi hi=>h i (ZK.1 hi)
theorem ris_rfs(M:Nat->It)(n:Nat)(h:∀k,k<n->(M k).factor=0/\(M k).held=false/\(M k).width=0):Bo M n=xP M n:=by unfold Bo xP;refine DH λi hi=>?_;obtain⟨h1,h2,h3⟩:=h i (ZK.1 hi);unfold wW nN rr;rw[h1,h2,h3]
def Yq(g:Nat)(ks:List Nat):List Value:=ks.map λk=>Value.pointer (some ⟨g,k*51,none⟩)
theorem rpC_app(g:Nat)(ks:List Nat)(k:Nat):Yq g (ks++[k])=Yq g ks++[.pointer (some ⟨g,k*51,none⟩)]:=by simp[Yq]
structure yQ(g base n c:Nat)(M:Nat->It)(W:World):Prop where
 own:W.ownsRow base 223 51 (.slice g n c) n (xP M n)
section
variable{g base n c k:Nat}{M M2:Nat->It}{W W':World}
theorem yQ.cell(h:yQ g base n c M W)(hk:k<n)(j:Nat){u:Value}(hu:(rr (M k))[j]? =some u):W.cell? (g,k*51+j)=some u:=by
 have hj:j<51:=by have:=(YT.1 hu).1;rw[PE]at this;exact this
 have h3:=(@World.ownsRow.cells _ _ _ _ _ _ _ h.own) (g:=g) rfl (k*51+j) u (by rw[Pb M n k j hk hj];exact hu);have ha:(⟨g,0,none⟩:Addr).add (k*51+j)=⟨g,k*51+j,none⟩:=by unfold Addr.add;split<;>simp_all
 rw[ha]at h3;exact h3
theorem yQ.frozen(h:yQ g base n c M W)(j:Nat):W.frozen? (g,j)=false:=h.own.frozenAt j
theorem yQ.lt(h:yQ g base n c M W):base<=g/\g<W.heap.size:=h.own.lt g rfl
theorem yQ.kp{bad:Nat->Prop}(h:yQ g base n c M W)(hk:Kp bad W W')(hn:¬bad g):yQ g base n c M W':=⟨xu h.own hk λg' e=>by injection e with e;subst e;exact hn⟩
theorem yQ.drewN(h:yQ g base n c M W)(i:Nat):yQ g base n c M (W.drewN i):=h.kp (bad:=λ_=>False) ((Kp.refl _ _).drewN i) (λh=>h)
theorem yQ.lQ(h:yQ g base n c M W){p:Addr}(hp:p.block≠g)(u:Value):yQ g base n c M (W.setCell p u):=⟨ZP h.own (λe=>hp (by injection e with e;exact e.symm)) u⟩
theorem yQ.set(h:yQ g base n c M W)(hk:k<n)(j:Nat)(u:Value)(hj:j<51)(he:(rr (M k)).set j u=rr (M2 k))(mI:∀i,i≠k->rr (M2 i)=rr (M i)):yQ g base n c M2 (W.setCell (g,k*51+j) u):=by have h1:=(h.own.stored (k*51+j) u).1;rw[Ks M M2 k j u hj he mI n hk]at h1;exact⟨h1⟩
theorem yQ.same(h:yQ g base n c M W)(he:∀k,k<n->rr (M2 k)=rr (M k)):yQ g base n c M2 W:=⟨by rw[M6 he];exact h.own⟩
theorem yQ.rng(h:yQ g base n c M W)(hk:k<n):∀j u,(lj (M k).s)[j]? =some u->W.cell? ((⟨g,k*51,none⟩:Addr).add j)=some u:=λj u hu=>by
 have hj:=(YT.1 hu).1;have h1:=h.cell hk j (u:=u) (by unfold rr;rw[YN hj];exact hu);have ha:(⟨g,k*51,none⟩:Addr).add j=⟨g,k*51+j,none⟩:=by unfold Addr.add;split<;>simp_all
 rw[ha];exact h1
end
theorem OT(M:Nat->It)(f:It->Int)(ks:List Nat):(ks.map λk=>if(M k).held then 0 else f (M k)).sum=tc M f (lX M ks):=by
 induction ks with
 | nil=>rfl
 | cons a t ih=>unfold tc lX at ih⊢;rw[Y6,ZF,ih];cases h:(M a).held<;>simp[VN,h]
theorem idx_oth(M:Nat->It)(ks:List Nat)(hd:ks.Nodup)(i:Nat)(h:i<ks.length)(hh:(M ks[i]).held=false):(lX M ks).idxOf ks[i]=(lX M (ks.take i)).length:=by
 have e:ks=ks.take i++ks[i]::ks.drop (i+1):=by rw[<-ZH h,ZL]
 have hn:ks[i]∉ks.take i:=λhm=>by have E9:=hd;rw[e]at E9;exact(aBO.1 E9).2.2 _ hm _ aB1 rfl
 have e2:lX M ks=lX M (ks.take i)++ks[i]::lX M (ks.drop (i+1)):=by
  have:lX M ks=lX M (ks.take i++ks[i]::ks.drop (i+1)):=by rw[<-e]
  rw[this];unfold lX;rw[aCX,VN,YP (by rw[hh];rfl)]
 rw[e2,List.idxOf_append,YO (show¬ks[i]∈lX M (ks.take i)from λhm=>hn (ZI.1 hm).1),List.idxOf_cons_self];simp
theorem zh(M:Nat->It)(ks:List Nat)(i:Nat)(h:i<ks.length):(lX M (ks.take (i+1))).length=(lX M (ks.take i)).length+(if(M ks[i]).held then 0 else 1):=by rw[QH M ks i h];split<;>simp
def KY(grows:Bool)(rest:Int):Int:=if(grows && decide (0<rest)) || (!grows && decide (rest<0))then max rest (-rest)else 0
theorem LJ(grows:Bool)(rest:Int):KY grows rest=max (if grows then rest else -rest) 0:=by
 unfold KY;cases grows
 ·simp only[aDI,Bool.false_or,Bool.not_false,aCK,ZU,Y9,BT];split<;>omega
 ·simp only[aCK,aDM,aDI,Bool.or_false,ZU,Z4];split<;>omega
def um(M:Nat->It)(mD all:Int)(k:Nat):Int:=if(M k).held then 0 else mD*(M k).factor / all
theorem KN(M:Nat->It)(ks:List Nat)(mD all:Int):(ks.map (um M mD all)).sum=((lX M ks).map (xw M mD all)).sum:=OT M (λx=>mD*x.factor / all) ks
theorem aim_eq(M:Nat->It)(ks:List Nat)(hd:ks.Nodup)(rest:Int)(grows:Bool)(i:Nat)(h:i<ks.length)(hh:(M ks[i]).held=false)(mD all:Int)(hg:mD=KY grows rest)(ha:all=tc M It.factor (lX M ks))(hap:0<all): IL M (lX M ks) rest grows ks[i]=(if grows then(M ks[i]).base+(um M mD all ks[i]+(if((lX M (ks.take i)).length:Int)<mD-(ks.map (um M mD all)).sum then 1 else 0))else(M ks[i]).base-(um M mD all ks[i]+(if((lX M (ks.take i)).length:Int)<mD-(ks.map (um M mD all)).sum then 1 else 0))):=by
 have tZ:=LJ grows rest;rw[<-hg]at tZ;have hs:um M mD all ks[i]=xw M mD all ks[i]:=by unfold um xw;rw[YO (by rw[hh];simp)]
 rw[KN,hs];unfold IL;simp only[<-ha];rw[idx_oth M ks hd i h hh];by_cases hle:(if grows=true then rest else -rest)<=0
 ·rw[YP (.inl hle)];have hg0:mD=0:=by omega
  have hp:∀k,xw M mD all k=0:=λk=>by unfold xw;rw[hg0,Int.zero_mul,Int.zero_ediv]
  have hz:((lX M ks).map (xw M mD all)).sum=0:=U3 _ _ λk _=>hp k;have XZ:¬((lX M (ks.take i)).length:Int)<0-0:=by omega
  rw[hz,hp,hg0,YO XZ];cases grows
  ·simp only[Y9,BT];omega
  ·simp only[Z4];omega
 ·rw[YO (by omega)];have:(if grows=true then rest else -rest)=mD:=by omega
  rw[this]
theorem US(M:Nat->It)(ks:List Nat)(mD all:Int)(hg:0<=mD)(ha:all=tc M It.factor (lX M ks))(hap:0<all)(hf:∀k∈lX M ks,0<=(M k).factor): (0<=mD-(ks.map (um M mD all)).sum/\mD-(ks.map (um M mD all)).sum<=ks.length)/\∀i,0<=((ks.take i).map (um M mD all)).sum/\((ks.take i).map (um M mD all)).sum<=mD:=by
 have hp:∀k∈ks,0<=um M mD all k:=λk hk=>by
  unfold um;cases hh:(M k).held
  ·rw[YO (by simp)];exact aCO (aB7 hg (hf k (ZI.2 ⟨hk,by rw[hh];rfl⟩))) (by omega)
  ·rw[YP rfl];omega
 have hb:=Vb (lX M ks) (λk=>(M k).factor) mD (by unfold tc at ha;rw[<-ha];exact hap);have e:((lX M ks).map λk=>mD*(M k).factor / ((lX M ks).map λk=>(M k).factor).sum).sum=(ks.map (um M mD all)).sum:=by
  rw[KN];unfold xw;have:((lX M ks).map λk=>(M k).factor).sum=all:=by rw[ha];rfl
  rw[this]
 rw[e]at hb;have hl:(lX M ks).length<=ks.length:=Z9 _ _;refine⟨⟨hb.1,by omega⟩,λi=>?_⟩;have h1:(ks.map (um M mD all)).sum=((ks.take i).map (um M mD all)).sum+((ks.drop i).map (um M mD all)).sum:=by rw[<-Xn,<-ZJ,ZL]
 have h2:=zT (ks.take i) (um M mD all) λk hk=>hp k (aA3 hk);have h3:=zT (ks.drop i) (um M mD all) λk hk=>hp k (List.mem_of_mem_drop hk);omega
end
section
attribute [local go_sem] lp
def aC(a:Nat->Int)(m:Nat):List Value:=(List.range m).map λi=>Value.int .i64 (a i)
theorem tt(a:Nat->Int){m i:Nat}(h:i<m):(aC a m).toArray[i]? =some (.int .i64 (a i)):=by simp[aC,h]
theorem aC_set(a:Nat->Int)(m i:Nat)(x:Int):(aC a m).toArray.setIfInBounds i (.int .i64 x)=(aC (λj=>if j=i then x else a j) m).toArray:=by
 apply aAZ.1;rw[Array.toList_setIfInBounds];apply List.ext_getElem?;intro j;rw[List.getElem?_set];unfold aC;simp only[Ts,aC4,aAT,List.getElem?_range];by_cases h:i=j
 ·subst h;by_cases hm:i<m
  ·simp[hm]
  ·simp[hm]
 ·rw[YO h];by_cases hm:j<m
  ·simp[hm,Ck h,λe:j=i=>h e.symm]
  ·simp[hm]
theorem Kf{a b:Nat->Int}{m:Nat}(h:∀j,j<m->a j=b j):aC a m=aC b m:=aAX λj hj=>by rw[h j (ZK.1 hj)]
theorem Xc(n:Nat)(hn:n<=1000000)(w:World):(Instr.makeSlice 23 (.int .i64 (n:Int)) (.int .i64 (n:Int))).run prog w= .ok (.slice w.heap.size n n) (w.alloc (.cells (aC (λ_=>0) n).toArray 2)):=by
 obtain⟨i,hi,hz,hs,hb⟩:=Nr PI.info;have h:=S9 (P:=prog) (w:=w) 23 2 i (.int .i64 0) PI.ht hi hz .i64 .i64 (n:Int) (n:Int) (by omega) (by omega) (by rw[hs];omega) (by rw[hb];omega) (by omega);have hm:madeCells (Value.int .i64 0).cells (n*1)=(aC (λ_=>0) n).toArray:=by apply aAZ.1;show(madeCells #[.int .i64 0] (n*1)).toList=_;rw[aB2,aA2];apply aCH<;>simp[aC]
 rw[h,hs,ZM,hm]
structure RndB(c:Int)(M:Nat->It)(ks:List Nat):Prop where
 mY:∀k∈ks,-30000000000000<=(M k).mY/\(M k).mY<=30000000000000
 base:∀k∈ks,-10995116277760<=(M k).base/\(M k).base<=10995116277760
 held:∀k∈ks,(M k).held=true->0<=(M k).width/\(M k).width<=10995116277760
 Yj:∀k∈ks,(M k).held=false->0<(M k).factor/\(M k).factor<=1000000000000000
 zI:∀k∈ks,vz (M k).s.mz/\vz (M k).s.my/\(M k).c=c
 c:CB c
 ne:lX M ks≠[]
 nd:ks.Nodup
 len:ks.length<=1000
def OU(M:Nat->It)(k:Nat):Int:=(M k).mY+(if(M k).held then(M k).width else(M k).base)
def XC(M:Nat->It)(k:Nat):Int:=if(M k).held then 0 else(M k).factor
theorem Pa(c:Int)(M:Nat->It)(ks:List Nat):c-(ks.map (OU M)).sum=vN (qq c M ks) M ks:=by have:=sum_add ks (λk=>(M k).mY) (λk=>if(M k).held then(M k).width else(M k).base);unfold vN qq tc;have e:(ks.map (OU M)).sum=(ks.map λk=>(M k).mY+(if(M k).held then(M k).width else(M k).base)).sum:=rfl;have e2:(ks.map λk=>(λx:It=>if x.held=true then x.width else x.base) (M k)).sum=(ks.map λk=>if(M k).held=true then(M k).width else(M k).base).sum:=rfl;rw[e,this,e2];omega
theorem pG(f:Nat->Int)(ks:List Nat)(i:Nat)(h:i<ks.length):((ks.take (i+1)).map f).sum=((ks.take i).map f).sum+f ks[i]:=by rw[YU h,ZJ,Xn];simp
theorem tI(f:Nat->Int)(ks:List Nat)(b:Int)(h:∀k∈ks,-b<=f k/\f k<=b)(hb:0<=b)(hl:ks.length<=1000)(i:Nat): -(1000*b)<=((ks.take i).map f).sum/\((ks.take i).map f).sum<=1000*b:=by have h1:=PN (ks.take i) f b λk hk=>h k (aA3 hk);have h2:b*((ks.take i).length:Int)<=b*1000:=aA5 (by have:=ZW (i:=i) (l:=ks);omega) hb;omega
structure RndN(c:Int)(grows:Bool)(M:Nat->It)(ks:List Nat)(rest all mD lf:Int)(ad:Nat->Int)(way:Int):Prop where
 rE:rest=vN (qq c M ks) M ks
 rB: -45000000000000000<=rest/\rest<=45000000000000000
 allE:all=tc M It.factor (lX M ks)
 allB:0<all/\all<=1000000000000000000
 gE:mD=KY grows rest
 gB:0<=mD/\mD<=45000000000000000
 lE:lf=mD-(ks.map (um M mD all)).sum
 lB:0<=lf/\lf<=1000
 shB:∀i,0<=((ks.take i).map (um M mD all)).sum/\((ks.take i).map (um M mD all)).sum<=mD
 sh0:∀k∈ks,0<=um M mD all k/\um M mD all k<=mD
 fle:∀k∈ks,(M k).held=false->(M k).factor<=all
 adE:∀(i:Nat) (h:i<ks.length),(M ks[i]).held=false->ad ks[i]=(if grows then(M ks[i]).base+(um M mD all ks[i]+(if((lX M (ks.take i)).length:Int)<lf then 1 else 0))else(M ks[i]).base-(um M mD all ks[i]+(if((lX M (ks.take i)).length:Int)<lf then 1 else 0)))
 adB:∀k∈ks,(M k).held=false->-46000000000000000<=ad k/\ad k<=46000000000000000
 tE:way=vo (ks.map λk=>if(M k).held then 0 else lF (M k).s c (ad k)-ad k).sum 0
 tB:∀i,-100000000000000000<=((ks.take i).map λk=>if(M k).held then 0 else lF (M k).s c (ad k)-ad k).sum/\((ks.take i).map λk=>if(M k).held then 0 else lF (M k).s c (ad k)-ad k).sum<=100000000000000000
 fin:∀k∈ks,rr (nI (qq c M ks) grows M ks k)=if(M k).held then rr (M k)else if way=0\/vo (lF (M k).s c (ad k)) (ad k)=way then rr {M k with held:=true,width:=lF (M k).s c (ad k)}else rr (M k)
 out:∀k,k∉ks->nI (qq c M ks) grows M ks k=M k
theorem rnd_n{c:Int}{grows:Bool}{M:Nat->It}{ks:List Nat}(h:RndB c M ks):∃rest all mD lf ad way,RndN c grows M ks rest all mD lf ad way:=by
 have AQ:∀k∈ks,(M k).held=false->k∈lX M ks:=λk hk hh=>ZI.2 ⟨hk,by rw[hh];rfl⟩;have nt:∀k∈lX M ks,k∈ks/\(M k).held=false:=λk hk=>by obtain⟨h1,h2⟩:=ZI.1 hk;exact⟨h1,by simpa using h2⟩
 obtain⟨rest,hr⟩:∃rest,rest=vN (qq c M ks) M ks:=⟨_,rfl⟩;obtain⟨all,ha⟩:∃all,all=tc M It.factor (lX M ks):=⟨_,rfl⟩;obtain⟨mD,hg⟩:∃mD,mD=KY grows rest:=⟨_,rfl⟩;obtain⟨lf,hl⟩:∃lf,lf=mD-(ks.map (um M mD all)).sum:=⟨_,rfl⟩;have vk:=h.c.b;have hlen:=h.len;have Bj: -45000000000000000<=rest/\rest<=45000000000000000:=by
  have h1:=tI (OU M) ks 41000000000000 (λk hk=>by
   have h1:=h.mY k hk;have h2:=h.base k hk;unfold OU;cases hh:(M k).held
   ·rw[YO (by simp)];omega
   ·have h3:=h.held k hk hh;rw[YP rfl];omega) (by omega) hlen ks.length
  rw[ZZ]at h1;rw[hr,<-Pa];omega
 have Vo:∀k∈lX M ks,0<(M k).factor/\(M k).factor<=1000000000000000:=λk hk=>h.Yj k (nt k hk).1 (nt k hk).2;have qu:0<all/\all<=1000000000000000000:=by
  have h1:=aal (lX M ks) (λk=>(M k).factor) λk hk=>(Vo k hk).1;have h2:=PN (lX M ks) (λk=>(M k).factor) 1000000000000000 λk hk=>by have:=Vo k hk;omega
  have h3:(lX M ks).length<=ks.length:=Z9 _ _;have h4:=aCQ.2 h.ne;have e:all=((lX M ks).map λk=>(M k).factor).sum:=by rw[ha];rfl
  rw[e];omega
 have hfle:∀k∈ks,(M k).held=false->(M k).factor<=all:=λk hk hh=>by
  have h1:=AQ k hk hh;obtain⟨x,y,e⟩:=List.append_of_mem h1;have h2:=zT x (λk=>(M k).factor) λj hj=>by have:=Vo j (by rw[e];simp[hj]);omega
  have h3:=zT y (λk=>(M k).factor) λj hj=>by have:=Vo j (by rw[e];simp[hj]);omega
  have e2:all=(x.map λk=>(M k).factor).sum+((M k).factor+(y.map λk=>(M k).factor).sum):=by rw[ha];unfold tc;rw[e,ZJ,Xn,Y6,ZF]
  omega
 have zG:0<=mD/\mD<=45000000000000000:=by have:=LJ grows rest;rw[<-hg]at this;cases grows<;>simp at this<;>omega
 have hlb:=US M ks mD all zG.1 ha qu.1 λk hk=>by have:=Vo k hk;omega
 rw[<-hl]at hlb;have Zk:∀k∈ks,0<=um M mD all k/\um M mD all k<=mD:=λk hk=>by
  unfold um;cases hh:(M k).held
  ·rw[YO (by simp)];have h1:=h.Yj k hk hh;exact⟨aCO (aB7 zG.1 (by omega)) (by omega),aDG qu.1 (aA5 (hfle k hk hh) zG.1)⟩
  ·rw[YP rfl];omega
 obtain⟨ad,had⟩:∃ad,ad=IL M (lX M ks) rest grows:=⟨_,rfl⟩;have hadE:∀(i:Nat) (h:i<ks.length),(M ks[i]).held=false->ad ks[i]=(if grows then(M ks[i]).base+(um M mD all ks[i]+(if((lX M (ks.take i)).length:Int)<lf then 1 else 0))else(M ks[i]).base-(um M mD all ks[i]+(if((lX M (ks.take i)).length:Int)<lf then 1 else 0))):=λi hi hh=>by rw[had,hl];exact aim_eq M ks h.nd rest grows i hi hh mD all hg ha qu.1
 have hab2:∀k∈ks,(M k).held=false->-(10995116277760+um M mD all k+1)<=ad k/\ad k<=10995116277760+um M mD all k+1:=λk hk hh=>by obtain⟨i,hi,rfl⟩:=aBQ.1 hk;rw[hadE i hi hh];have h1:=h.base _ hk;have h2:=Zk _ hk;cases grows<;>simp only[Y9,Z4,BT]<;>split<;>omega
 have Pg:∀j∈lX M ks,qo M (lX M ks) rest grows j={M j with IU:=ad j}:=λj hj=>by rw[had];unfold qo;rw[YP hj]
 have hway:Bs (qo M (lX M ks) rest grows) (lX M ks)=vo (ks.map λk=>if(M k).held then 0 else lF (M k).s c (ad k)-ad k).sum 0:=by
  unfold Bs;congr 1;have e1:tc (qo M (lX M ks) rest grows) (λx=>L0 x-x.IU) (lX M ks)=((lX M ks).map λk=>lF (M k).s c (ad k)-ad k).sum:=by unfold tc;refine sum_eqs _ _ _ λk hk=>?_;have hc:=(h.zI k (nt k hk).1).2.2;rw[Pg k hk];show lF (M k).s (M k).c (ad k)-ad k=_;rw[hc]
  rw[e1];have e2:(ks.map λk=>if(M k).held then 0 else lF (M k).s c (ad k)-ad k).sum=((lX M ks).map λk=>lF (M k).s c (ad k)-ad k).sum:=by
   have:∀l:List Nat,(l.map λk=>if(M k).held then 0 else lF (M k).s c (ad k)-ad k).sum=((lX M l).map λk=>lF (M k).s c (ad k)-ad k).sum:=λl=>by
    induction l with
    | nil=>rfl
    | cons a t ih=>unfold lX at ih⊢;rw[Y6,ZF,ih];cases hh:(M a).held<;>simp[VN,hh]
   exact this ks
  rw[e2]
 have htb:∀k∈ks,-(21990232555520+um M mD all k+1)<=(if(M k).held then 0 else lF (M k).s c (ad k)-ad k)/\(if(M k).held then 0 else lF (M k).s c (ad k)-ad k)<=21990232555520+um M mD all k+1:=λk hk=>by
  have h2:=Zk k hk;cases hh:(M k).held
  ·rw[YO (by simp)];have h1:=hab2 k hk hh;obtain⟨l1,l2,_⟩:=h.zI k hk;by_cases he:lF (M k).s c (ad k)=ad k
   ·rw[he];omega
   ·have:=xC l1 l2 h.c he;omega
  ·rw[YP rfl];omega
 have htu:∀i,-100000000000000000<=((ks.take i).map λk=>if(M k).held then 0 else lF (M k).s c (ad k)-ad k).sum/\((ks.take i).map λk=>if(M k).held then 0 else lF (M k).s c (ad k)-ad k).sum<=100000000000000000:=λi=>by
  have gen:∀l:List Nat,(∀k∈l,k∈ks)->-(21990232555521*(l.length:Int)+(l.map (um M mD all)).sum)<=(l.map λk=>if(M k).held then 0 else lF (M k).s c (ad k)-ad k).sum/\(l.map λk=>if(M k).held then 0 else lF (M k).s c (ad k)-ad k).sum<=21990232555521*(l.length:Int)+(l.map (um M mD all)).sum:=λl hl=>by
   induction l with
   | nil=>simp
   | cons a t ih=>have h1:=ih λk hk=>hl k (by simp[hk]);have h2:=htb a (hl a (by simp));rw[Y6,ZF,Y6,ZF,ZA];omega
  have h1:=gen (ks.take i) λk hk=>aA3 hk;have h2:=hlb.2 i;have h3:(ks.take i).length<=1000:=by have:=ZW (i:=i) (l:=ks);omega
  omega
 refine⟨rest,all,mD,lf,ad,_,hr,Bj,ha,qu,hg,zG,hl,⟨hlb.1.1,by omega⟩,hlb.2,Zk,hfle,hadE,λk hk hh=>?_,rfl,htu,λk hk=>?_,λk hk=>?_⟩
 ·have h1:=hab2 k hk hh;have h2:=Zk k hk;omega
 ·rw[<-hway];cases hh:(M k).held
  ·have Fh:=AQ k hk hh;have hc:=(h.zI k hk).2.2;rw[YO (by simp)];have e:nI (qq c M ks) grows M ks k=xo (Bs (qo M (lX M ks) rest grows) (lX M ks)) (qo M (lX M ks) rest grows k):=(by unfold nI tq;rw[YP Fh,<-hr]);rw[e,Pg k Fh];unfold xo;have ecl:L0 {M k with IU:=ad k}=lF (M k).s c (ad k):=(by show lF (M k).s (M k).c (ad k)=_;rw[hc]);rw[ecl];show rr (if Bs (qo M (lX M ks) rest grows) (lX M ks)=0\/vo (lF (M k).s c (ad k)) (ad k)=Bs (qo M (lX M ks) rest grows) (lX M ks)then _ else _)=_
   split<;>rfl
  ·rw[YP rfl];have hjo:k∉lX M ks:=λh=>(by have:=(ZI.1 h).2;rw[hh]at this;cases this);unfold nI tq qo;rw[YO hjo,YO hjo]
 ·have hjo:k∉lX M ks:=λh=>hk (ZI.1 h).1;unfold nI tq qo;rw[YO hjo,YO hjo]
structure vM(g ga base n ci m:Nat)(M:Nat->It)(a:Nat->Int)(w W:World):Prop where
 it:yQ g base n ci M W
 am:lq W ga 2 (aC a m).toArray
 k:Kp (λb=>b=g) w W
 lo:w.heap.size<=ga
 gl:g<w.heap.size
section
variable{g ga base n ci m kk:Nat}{M M2:Nat->It}{a b:Nat->Int}{w W W':World}
theorem vM.lR(h:vM g ga base n ci m M a w W)(hb:Below W.heap.size W W'):vM g ga base n ci m M a w W':=
 ⟨h.it.kp (Kp.nD hb (λ_=>False)) (λh=>h),h.am.below hb h.am.lt,h.k.trans (Kp.nD hb _),h.lo,h.gl⟩
theorem vM.Zc(h:vM g ga base n ci m M a w W)(i:Nat)(x:Int)(he:∀j,j<m->b j=if j=i then x else a j):vM g ga base n ci m M b w (W.setCell (ga,i) x):=
 ⟨h.it.lQ (by have:=h.lo;have:=h.gl;show ga≠g;omega) _,by have h1:=h.am.lA i x;rw[aC_set,show aC (λj=>if j=i then x else a j) m=aC b m from Kf λj hj=>(he j hj).symm]at h1;exact h1,h.k.setCell (p:=(ga,i)) (.inr h.lo) _,h.lo,h.gl⟩
theorem vM.oZ(h:vM g ga base n ci m M a w W)(hk:kk<n)(j:Nat)(u:Value)(hj:j<51)(he:(rr (M kk)).set j u=rr (M2 kk))(mI:∀i,i≠kk->rr (M2 i)=rr (M i)):vM g ga base n ci m M2 a w (W.setCell (g,kk*51+j) u):=
 ⟨h.it.set hk j u hj he mI,h.am.lQ (by have:=h.lo;have:=h.gl;show ga≠g;omega) _,h.k.setCell (p:=(g,kk*51+j)) (.inl rfl) _,h.lo,h.gl⟩
theorem vM.Um(h:vM g ga base n ci m M a w W)(he:∀j,j<m->b j=a j):vM g ga base n ci m M b w W:=⟨h.it,by rw[Kf he];exact h.am,h.k,h.lo,h.gl⟩
theorem vM.same(h:vM g ga base n ci m M a w W)(he:∀k,k<n->rr (M2 k)=rr (M k)):vM g ga base n ci m M2 a w W:=⟨h.it.same he,h.am,h.k,h.lo,h.gl⟩
end
def rI(i:Nat)(f g:Nat->Int)(j:Nat):Int:=if j<i then f j else g j
def uS(lf Bv:Int):Int:=if Bv<lf then lf-Bv else 0
def oy(ks:List Nat)(j:Nat):Nat:=(ks[j]?).getD 0
theorem qK{ks:List Nat}{i:Nat}(h:i<ks.length):oy ks i=ks[i]:=by unfold oy;rw[YH h];rfl
theorem uZ(i m:Nat)(f g:Nat->Int):∀j,j<m->rI (i+1) f g j=if j=i then f i else rI i f g j:=λj _=>by
 unfold rI;by_cases h:j=i
 ·subst h;rw[YP (by omega),YP rfl]
 ·rw[YO h];by_cases h2:j<i
  ·rw[YP (by omega),YP h2]
  ·rw[YO (by omega),YO h2]
theorem zO(i:Nat)(f g:Nat->Int):rI i f g i=g i:=YO (by omega)
theorem K9(m:Nat)(f g:Nat->Int):∀j,j<m->rI m f g j=f j:=λj h=>YP h
def yo(M:Nat->It)(c:Int)(ad:Nat->Int)(k:Nat):Int:=if(M k).held then 0 else lF (M k).s c (ad k)-ad k
theorem K8(M:Nat->It)(c:Int)(ad:Nat->Int):(λk=>if(M k).held then 0 else lF (M k).s c (ad k)-ad k)=yo M c ad:=rfl
def stM(M R:Nat->It)(ks:List Nat)(i k:Nat):It:=if k∈ks.take i then R k else M k
theorem GO{M R:Nat->It}{ks:List Nat}{i:Nat}(h:i<ks.length){k:Nat}(hk:k≠ks[i]):stM M R ks (i+1) k=stM M R ks i k:=by
 unfold stM;have:k∈ks.take (i+1)↔k∈ks.take i:=by rw[YU h,YW,aA0];exact⟨λh=>h.resolve_right hk,.inl⟩
 by_cases hm:k∈ks.take i
 ·rw[YP hm,YP (this.2 hm)]
 ·rw[YO hm,YO (λh=>hm (this.1 h))]
theorem OH{M R:Nat->It}{ks:List Nat}{i:Nat}(h:i<ks.length):stM M R ks (i+1) ks[i]=R ks[i]:=by unfold stM;rw[YP];have e:=YU h;rw[e];exact aDF _ (aA0.2 rfl)
theorem OV{M R:Nat->It}{ks:List Nat}{i:Nat}(hd:ks.Nodup)(h:i<ks.length):stM M R ks i ks[i]=M ks[i]:=by
 unfold stM;rw[YO λhm=>?_];have e:ks=ks.take i++ks[i]::ks.drop (i+1):=by rw[<-ZH h,ZL]
 have E9:=hd;rw[e]at E9;exact(aBO.1 E9).2.2 _ hm _ aB1 rfl
theorem NF(g base n ci:Nat)(c:Int)(grows:Bool)(M:Nat->It)(ks:List Nat)(Ap:Option Addr)(cp:Nat)(w:World)(hb:RndB c M ks)(hn:∀k∈ks,k<n)(hi:yQ g base n ci M w)(hp:Reads w w.heap.size 1 Ap ks.length (Yq g ks))(hpg:∀ad,Ap=some ad->ad.block≠g): Calls prog 169 #[.slice Ap ks.length cp,.int .i64 c,.bool grows] w λe w'=>e= .returned (.tuple #[])/\yQ g base n ci (nI (qq c M ks) grows M ks) w'/\Kp (λb=>b=g) w w':=by
 obtain⟨rest,all,mD,lf,ad,way,hN⟩:=rnd_n (grows:=grows) hb;obtain⟨m,Dd⟩:∃m,m=ks.length:=⟨_,rfl⟩;rw[<-Dd]at hp⊢;have HB:=X6 hb;have HN:=X6 hn;have HI:=X6 hi;have HX:=X6 hN;have HM:=X6 Dd;have Tm:m<=1000:=by rw[Dd];exact hb.len
 have vk:=hb.c.b;have yX:Hid (∀W,Kp (λb=>b=g) w W->∀i (h:i<ks.length),∃p:Addr,Ap=some p/\W.cell? (p.add i)=some (.pointer (some ⟨g,ks[i]*51,none⟩))):=X6 (λW hk i h=>by
  obtain⟨p,u,e,lN,hx,hc⟩:=hp.at_ (show i<m by rw[Dd];exact h);refine⟨p,e,?_⟩;have hu:u= .pointer (some ⟨g,ks[i]*51,none⟩):=by simpa[Yq,h]using hx.symm
  rw[<-hu,<-hc];exact hk.cell (by rw[lp];exact lN) (by rw[lp];exact hpg p e))
 have Je:=hi.lt.2;clear hb hn hi hN Dd hp hpg;go_enter func169,ntmps169;go_wp2_with fail;go_loopw [6,7,8] (λrv fv kv wr=>∃i:Nat,i<=m/\kv= .int .i64 i/\rv= .int .i64 (c-((ks.take i).map (OU M)).sum)/\fv= .int .i64 (((ks.take i).map (XC M)).sum)/\Hid (w=wr)) (λ_ _ kv _=>m-(intOf kv).toNat);case atStart=>exact⟨0,by omega,rfl,by simp,rfl,X6 rfl⟩
 case round=>
  obtain⟨i,hi,rfl,rfl,rfl,HW⟩:=hrel;obtain rfl:=HW.out;clear HW;have hsr: -41000000000000000<=((ks.take i).map (OU M)).sum/\((ks.take i).map (OU M)).sum<=41000000000000000:=by
   have:=tI (OU M) ks 41000000000000 (λk hk=>by
    have h1:=HB.mY k hk;have h2:=HB.base k hk;unfold OU;cases hh:(M k).held
    ·rw[YO (by simp)];omega
    ·have h3:=HB.held k hk hh;rw[YP rfl];omega) (by omega) HB.len i
   omega
  have hsf: -1000000000000000000<=((ks.take i).map (XC M)).sum/\((ks.take i).map (XC M)).sum<=1000000000000000000:=by
   have:=tI (XC M) ks 1000000000000000 (λk hk=>by
    unfold XC;cases hh:(M k).held
    ·have h3:=HB.Yj k hk hh;rw[YO (by simp)];omega
    ·rw[YP rfl];omega) (by omega) HB.len i
   omega
  obtain⟨SR,hSR⟩:∃SR,SR=((ks.take i).map (OU M)).sum:=⟨_,rfl⟩;obtain⟨SF,hSF⟩:∃SF,SF=((ks.take i).map (XC M)).sum:=⟨_,rfl⟩;rw[<-hSR]at hsr⊢;rw[<-hSF]at hsf⊢;by_cases lN:i<m
  ·have q0:decide ((i:Int)<(m:Int))=true:=YC (by omega);have yF:decide (i<m)=true:=YC lN;have wQ:(i:Int)<(m:Int):=(by omega);have Ep:(0:Int)<=(i:Int):=(by omega);have wi:IntKind.i64.wrap ((i:Int)+1)=(i:Int)+1:=YG _ ⟨by omega,by omega⟩;have nF:i<ks.length:=(by rw[<-HM.out];exact lN);obtain⟨k,hk⟩:∃k,k=ks[i]:=⟨_,rfl⟩;have xD:k∈ks:=(by rw[hk];exact YJ nF);have pz:=HN.out k xD;obtain⟨p,hA,c1⟩:=yX.out w (Kp.refl _ _) i nF;rw[<-hk]at c1;subst hA;obtain⟨x,hx⟩:∃x,x=M k:=⟨_,rfl⟩;have OC:Hid (((ks.take (i+1)).map (OU M)).sum=SR+OU M k/\((ks.take (i+1)).map (XC M)).sum=SF+XC M k):=X6 ⟨by rw[pG _ _ _ nF,hSR,hk],by rw[pG _ _ _ nF,hSF,hk]⟩;have x45:w.cell? (g,k*51+45)=x.mY:=HI.cell pz 45 (by rw[hx];rfl);have x46:w.cell? (g,k*51+46)=x.base:=HI.cell pz 46 (by rw[hx];rfl);have x48:w.cell? (g,k*51+48)=x.factor:=HI.cell pz 48 (by rw[hx];rfl);have Ta:w.cell? (g,k*51+49)=x.held:=HI.cell pz 49 (by rw[hx];rfl);have x50:w.cell? (g,k*51+50)=x.width:=HI.cell pz 50 (by rw[hx];rfl);have b1:=HB.mY k xD;have b2:=HB.base k xD;have b3:=HB.held k xD;have b4:=HB.Yj k xD;rw[<-hx]at b1 b2 b3 b4;have HXK:=X6 hx;clear hk hx hSR hSF;cases hh:x.held
   ·have b5:=b4 hh;rw[hh]at Ta;have HH:=X6 hh;clear b3 b4 hh;have w1:IntKind.i64.wrap (c-SR-x.mY)=c-SR-x.mY:=YG _ ⟨by omega,by omega⟩;have w2:IntKind.i64.wrap (c-SR-x.mY-x.base)=c-SR-x.mY-x.base:=YG _ ⟨by omega,by omega⟩;have w3:IntKind.i64.wrap (SF+x.factor)=SF+x.factor:=YG _ ⟨by omega,by omega⟩;go_wp2_with fail;go_roundw;case rel=>
     refine⟨i+1,by omega,by go_num,?_,?_,by first | exact X6 rfl | exact X6 trivial⟩
     ·rw[OC.1];unfold OU;rw[<-HXK.out,HH.out,YO (by simp)];congr 1;omega
     ·rw[OC.2];unfold XC;rw[<-HXK.out,HH.out,YO (by simp)]
    case measure=>simp[intOf]<;>omega
   ·have b5:=b3 hh;rw[hh]at Ta;have HH:=X6 hh;clear b3 b4 hh;have w1:IntKind.i64.wrap (c-SR-x.mY)=c-SR-x.mY:=YG _ ⟨by omega,by omega⟩;have w2:IntKind.i64.wrap (c-SR-x.mY-x.width)=c-SR-x.mY-x.width:=YG _ ⟨by omega,by omega⟩;go_wp2_with fail;go_roundw;case rel=>
     refine⟨i+1,by omega,by go_num,?_,?_,by first | exact X6 rfl | exact X6 trivial⟩
     ·rw[OC.1];unfold OU;rw[<-HXK.out,HH.out,YP rfl];congr 1;omega
     ·rw[OC.2];unfold XC;rw[<-HXK.out,HH.out,YP rfl,aCS]
    case measure=>simp[intOf]<;>omega
  ·have q0:decide ((i:Int)<(m:Int))=false:=X9 (by omega);have yF:decide (i<m)=false:=X9 lN;have GM:i=m:=(by omega);have er:c-SR=rest:=(by rw[hSR,GM,HM.out,ZZ,Pa,<-HX.rE]);have ea:SF=all:=(by rw[hSF,GM,HM.out,ZZ,HX.allE];exact OT M It.factor ks);rw[er,ea];clear hSR hSF er ea hsr hsf GM lN yF;have yF:decide (i<m)=false:=YZ (by rw[ZU];exact X9 (by have:=YS q0;omega));have Bj:=HX.rB;have zG:=HX.gB;have qu:=HX.allB;have hlb:=HX.lB;have wneg:IntKind.i64.wrap (-rest)= -rest:=YG _ ⟨by omega,by omega⟩;go_upto_region 11 with(fail)
   obtain⟨gb,aae⟩:∃gb,gb=((grows && decide (0<rest)) || (!grows && decide (rest<0))):=⟨_,rfl⟩;have C6:Hid (mD=if gb then max rest (-rest)else 0):=X6 (by rw[HX.gE,aae];rfl);have HGB:=X6 aae;clear aae;go_cut [80] (λs9 wx=>s9= .bool gb/\w=wx);case first=>as_aux_lemma=>
    have mH:=HGB.out;clear zG HX C6;cases grows
    ·cases d:decide (rest<0)
     ·have Ng:Hid (gb=false):=X6 (by rw[mH,d];rfl);clear mH;go_wp2_with fail;go_meet;exact⟨by rw[Ng.out],rfl⟩
     ·have Ng:Hid (gb=true):=X6 (by rw[mH,d];rfl);clear mH;go_wp2_with fail;go_meet;exact⟨by rw[Ng.out],rfl⟩
    ·cases d:decide (0<rest)
     ·have Ng:Hid (gb=false):=X6 (by rw[mH,d];rfl);clear mH;go_wp2_with fail;go_meet;exact⟨by rw[Ng.out],rfl⟩
     ·have Ng:Hid (gb=true):=X6 (by rw[mH,d];rfl);clear mH;go_wp2_with fail;go_meet;exact⟨by rw[Ng.out],rfl⟩
   case rest=>
   obtain⟨rfl,rfl⟩:=hcut;go_upto_if 80 with(fail);go_cut [9] (λs9 wx=>s9= .int .i64 mD/\w=wx);case first=>as_aux_lemma=>
    clear zG HX;cases gb
    ·have Ng:Hid (mD=0):=X6 C6.out;go_wp2_with fail;go_meet;exact⟨by rw[Ng.out],rfl⟩
    ·have Ng:Hid (mD=max rest (-rest)):=X6 C6.out;by_cases hneg:rest< -rest
     ·have OG:Hid (mD= -rest):=X6 (by rw[Ng.out];omega);go_wp2_with fail;go_meet;exact⟨by rw[OG.out],rfl⟩
     ·have OG:Hid (mD=rest):=X6 (by rw[Ng.out];omega);go_wp2_with fail;go_meet;exact⟨by rw[OG.out],rfl⟩
   case rest=>
    obtain⟨rfl,rfl⟩:=hcut;as_aux_lemma=>
    obtain⟨wv,rfl⟩:∃wv,wv=w:=⟨_,rfl⟩;clear wneg;have tC:=λW=>Xc m (by omega) W;go_upto_region 14 with(fail);clear tC;obtain⟨ga,S0⟩:∃ga,ga=wv.heap.size:=⟨_,rfl⟩;obtain⟨sh,hsh⟩:∃sh,sh=um M mD all:=⟨_,rfl⟩;have Mf:Hid (vM g ga base n ci m M (rI 0 (λj=>sh (oy ks j)) (λ_=>0)) wv (wv.alloc (.cells (aC (λ_=>0) m).toArray 2))):=X6 ⟨HI.kp (Kp.nD (UH (ZN _ _) _) (λ_=>False)) (λh=>h),lq.at_ _ _ _ S0,(Kp.refl _ _).alloc _,by omega,Je⟩;obtain⟨w1,mW⟩:∃w1,w1=wv.alloc (.cells (aC (λ_=>0) m).toArray 2):=⟨_,rfl⟩;rw[<-mW]at Mf;rw[<-mW,<-S0];have HSH:Hid (∀k,sh k=um M mD all k):=X6 (λk=>by rw[hsh]);have HSU:Hid (lf=mD-(ks.map sh).sum/\(∀i,0<=((ks.take i).map sh).sum/\((ks.take i).map sh).sum<=mD)/\∀k∈ks,0<=sh k/\sh k<=mD):=X6 (by rw[hsh];exact⟨HX.lE,HX.shB,HX.sh0⟩);clear mW S0 hsh;go_wp2_with fail;go_loopw [11,12] (λlv kv wr=>∃i:Nat,i<=m/\kv= .int .i64 i/\lv= .int .i64 (mD-((ks.take i).map sh).sum)/\Hid (vM g ga base n ci m M (rI i (λj=>sh (oy ks j)) (λ_=>0)) wv wr)) (λ_ kv _=>m-(intOf kv).toNat);case atStart=>exact⟨0,by omega,rfl,by simp,Mf⟩
    case round=>as_aux_lemma=>
     obtain⟨i,hi,rfl,rfl,HJ⟩:=hrel;have Lo:=HSU.2.1 i;obtain⟨SS,hSS⟩:∃SS,SS=((ks.take i).map sh).sum:=⟨_,rfl⟩;rw[<-hSS]at Lo⊢;by_cases lN:i<m
     ·have q0:decide ((i:Int)<(m:Int))=true:=YC (by omega);have yF:decide (i<m)=true:=YC lN;have wQ:(i:Int)<(m:Int):=(by omega);have Ep:(0:Int)<=(i:Int):=(by omega);have wi:IntKind.i64.wrap ((i:Int)+1)=(i:Int)+1:=YG _ ⟨by omega,by omega⟩;have nF:i<ks.length:=(by rw[<-HM.out];exact lN);obtain⟨k,hk⟩:∃k,k=ks[i]:=⟨_,rfl⟩;have xD:k∈ks:=(by rw[hk];exact YJ nF);have pz:=HN.out k xD;obtain⟨p,hA,c1⟩:=yX.out wr HJ.k i nF;rw[<-hk]at c1;subst hA;have OC:Hid (((ks.take (i+1)).map sh).sum=SS+sh k):=X6 (by rw[pG _ _ _ nF,hSS,hk]);have BZ:Hid (oy ks i=k):=X6 (by rw[qK nF,hk]);obtain⟨fc,hfc⟩:∃fc,fc=(M k).factor:=⟨_,rfl⟩;obtain⟨hd,yW⟩:∃hd,hd=(M k).held:=⟨_,rfl⟩;have x48:wr.cell? (g,k*51+48)=fc:=HJ.it.cell pz 48 (by rw[hfc];rfl);have Ta:wr.cell? (g,k*51+49)=hd:=HJ.it.cell pz 49 (by rw[yW];rfl);clear hk hSS;cases hd
      ·have Tz:Hid (sh k=mD*fc / all):=X6 (by rw[HSH.out,hfc];unfold um;rw[<-yW,YO (by simp)]);have hf1:=HX.fle k xD yW.symm;have D9:=(HB.Yj k xD yW.symm).1;rw[<-hfc]at hf1 D9;clear hfc yW;have y0:wr.cell? (ga,i)=lx:=HJ.am.get i (by rw[tt _ lN,zO]);have y1:=HJ.am.frozen i;have hsk:=HSU.2.2 k xD;rw[Tz.out]at hsk;obtain⟨S,hS⟩:∃S,S=mD*fc / all:=⟨_,rfl⟩;have HSHR:Hid (∀W,Calls prog 205 #[mD,fc,all] W λe w'=>e= .returned S/\W=w'):=X6 (λW=>by rw[hS];exact(NU mD fc all W (by omega) (by omega) (by omega)).mono λ_ _ h=>⟨h.1,h.2.symm⟩);rw[<-hS]at hsk Tz;clear hS;go_upto_region 20 with(go_at_call 205;refine(HSHR.out _).mono ?_;rintro e w' ⟨rfl,rfl⟩)
       have JN:Hid (vM g ga base n ci m M (rI (i+1) (λj=>sh (oy ks j)) (λ_=>0)) wv (wr.setCell (ga,i) S)):=X6 (HJ.Zc i S (λj hj=>by rw[uZ i m _ _ j hj,BZ.out,Tz.out]));obtain⟨w2,ph⟩:∃w2,w2=wr.setCell (ga,i) S:=⟨_,rfl⟩;rw[<-ph]at JN⊢;clear ph y0 y1;have y0:w2.cell? (ga,i)=S:=JN.am.get i (by rw[tt _ lN];unfold rI;rw[YP (by omega)];show some (Value.int .i64 (sh (oy ks i)))=_;rw[BZ.out,Tz.out]);have w5:IntKind.i64.wrap (mD-SS-S)=mD-SS-S:=YG _ ⟨by omega,by omega⟩;go_wp2_with fail;go_roundw;case rel=>exact⟨i+1,by omega,by go_num,by rw[OC.out,Tz.out];congr 1;omega,JN⟩
       case measure=>simp[intOf]<;>omega
      ·have Tz:Hid (sh k=0):=X6 (by rw[HSH.out];unfold um;rw[<-yW,YP rfl]);clear hfc yW;go_wp2_with fail;go_roundw;case rel=>exact⟨i+1,by omega,by go_num,by rw[OC.out,Tz.out,aCS],X6 (HJ.Um λj hj=>by
        rw[uZ i m _ _ j hj];by_cases e:j=i
        ·subst e;rw[YP rfl,BZ.out,Tz.out,zO]
        ·rw[YO e])⟩
       case measure=>simp[intOf]<;>omega
     ·have q0:decide ((i:Int)<(m:Int))=false:=X9 (by omega);have yF:decide (i<m)=false:=X9 lN;have GM:i=m:=(by omega);have er:mD-SS=lf:=(by rw[hSS,GM,HM.out,ZZ,<-HSU.1]);obtain⟨AP,hadh⟩:∃AP:Nat->Int,AP=λk=>if(M k).held then 0 else ad k:=⟨_,rfl⟩
      have HAH:Hid (∀k,AP k=if(M k).held then 0 else ad k):=X6 (λk=>by rw[hadh]);clear hadh;have JN:Hid (vM g ga base n ci m M (rI 0 (λj=>AP (oy ks j)) (λj=>sh (oy ks j))) wv wr):=X6 (HJ.Um λj hj=>by rw[GM,K9 m _ _ j hj];rfl);rw[er];clear hSS er GM Lo HJ Mf;have CO:Hid (∀i,0<=((lX M (ks.take i)).length:Int)/\((lX M (ks.take i)).length:Int)<=1000):=X6 (λi=>by have h1:(lX M (ks.take i)).length<=(ks.take i).length:=Z9 _ _;have h2:=ZW (i:=i) (l:=ks);have:=HM.out;omega);have HL0:Hid (uS lf ((lX M (ks.take 0)).length:Int)=lf):=X6 (by unfold uS;have:(lX M (ks.take 0)).length=0:=rfl;rw[this];split<;>omega);go_wp2_with fail;obtain⟨wy,rfl⟩:∃wy,wy=wr:=⟨_,rfl⟩;clear q0 yF lN;go_loopw [11,13,14] (λlv tv kv wr=>∃i:Nat,i<=m/\kv= .int .i64 i/\lv= .int .i64 (uS lf ((lX M (ks.take i)).length:Int))/\tv= .int .i64 (((ks.take i).map (yo M c ad)).sum)/\Hid (vM g ga base n ci m M (rI i (λj=>AP (oy ks j)) (λj=>sh (oy ks j))) wv wr)) (λ_ _ kv _=>m-(intOf kv).toNat);case atStart=>exact⟨0,by omega,rfl,by rw[HL0.out],rfl,JN⟩
      case round=>as_aux_lemma=>
       obtain⟨i,hi,rfl,rfl,rfl,HJ⟩:=hrel;have Pt:=CO.out i;have htb:=HX.tB i;rw[K8]at htb;obtain⟨TT,hTT⟩:∃TT,TT=((ks.take i).map (yo M c ad)).sum:=⟨_,rfl⟩;obtain⟨cn,RP⟩:∃cn:Int,cn=((lX M (ks.take i)).length:Int):=⟨_,rfl⟩;rw[<-hTT]at htb⊢;rw[<-RP]at Pt⊢;by_cases lN:i<m
       ·have q0:decide ((i:Int)<(m:Int))=true:=YC (by omega);have yF:decide (i<m)=true:=YC lN;have wQ:(i:Int)<(m:Int):=(by omega);have Ep:(0:Int)<=(i:Int):=(by omega);have wi:IntKind.i64.wrap ((i:Int)+1)=(i:Int)+1:=YG _ ⟨by omega,by omega⟩;have nF:i<ks.length:=(by rw[<-HM.out];exact lN);obtain⟨k,hk⟩:∃k,k=ks[i]:=⟨_,rfl⟩;have xD:k∈ks:=(by rw[hk];exact YJ nF);have pz:=HN.out k xD;obtain⟨p,hA,c1⟩:=yX.out wr HJ.k i nF;rw[<-hk]at c1;subst hA;have htb2:=HX.tB (i+1);rw[K8,pG _ _ _ nF,<-hTT,<-hk]at htb2;have OC:Hid (((ks.take (i+1)).map (yo M c ad)).sum=TT+yo M c ad k/\((lX M (ks.take (i+1))).length:Int)=cn+(if(M k).held then 0 else 1)):=X6 ⟨by rw[pG _ _ _ nF,hTT,hk],by have h1:=zh M ks i nF;rw[h1,<-hk,RP];cases(M k).held<;>simp⟩;have BZ:Hid (oy ks i=k):=X6 (by rw[qK nF,hk]);obtain⟨bs,R6⟩:∃bs,bs=(M k).base:=⟨_,rfl⟩;obtain⟨hd,yW⟩:∃hd,hd=(M k).held:=⟨_,rfl⟩;have Ta:wr.cell? (g,k*51+49)=hd:=HJ.it.cell pz 49 (by rw[yW];rfl);cases hd
        ·have HAD:=X6 (HX.adE i nF (by rw[<-hk];exact yW.symm));have Lp:=HX.adB k xD yW.symm;have hbsb:=HB.base k xD;have hshb:=HSU.2.2 k xD;rw[<-hk,<-RP]at HAD;rw[<-HSH.out k,<-R6]at HAD;rw[<-R6]at hbsb;obtain⟨S,hS⟩:∃S,S=sh k:=⟨_,rfl⟩;rw[<-hS]at HAD hshb;obtain⟨AD,hAD⟩:∃AD,AD=ad k:=⟨_,rfl⟩;rw[<-hAD]at HAD Lp;have HTU:Hid (yo M c ad k=lF (M k).s c AD-AD):=X6 (by unfold yo;rw[<-yW,YO (by simp),hAD]);have HHD:=X6 yW;have y0:wr.cell? (ga,i)=S:=HJ.am.get i (by rw[tt _ lN,zO,BZ.out,hS]);have UG:Hid (S=sh k/\AD=AP k/\bs=(M k).base):=X6 ⟨hS,by rw[HAH.out,<-yW,YO (by simp),hAD],R6⟩;clear RP hTT hk yW hS hAD R6;have y1:=HJ.am.frozen i;obtain⟨dl,hdl⟩:∃dl:Int,dl=(if cn<lf then 1 else 0):=⟨_,rfl⟩;rw[<-hdl]at HAD;obtain⟨lfn,hlfn⟩:∃lfn:Int,lfn=uS lf (cn+1):=⟨_,rfl⟩;have vQ:Hid (uS lf (cn+(if(M k).held then 0 else 1))=lfn):=X6 (by rw[<-HHD.out,YO (by simp),hlfn]);have hlE:lfn=uS lf cn-dl:=(by rw[hlfn,hdl];unfold uS;split<;>(try split)<;>(try split)<;>omega);have Kn:(0<uS lf cn)=(dl=1):=(by rw[hdl];unfold uS;apply propext;split<;>constructor<;>omega);have FW:dl=0\/dl=1:=(by rw[hdl];split<;>simp);have Tb:0<=uS lf cn/\uS lf cn<=1000:=(by unfold uS;split<;>omega);clear hdl hlfn;obtain⟨ln,zv⟩:∃ln,ln=uS lf cn:=⟨_,rfl⟩;rw[<-zv]at hlE Kn Tb⊢;have HLE:=X6 hlE;have zA:=X6 Kn;clear zv hlE Kn;go_upto_region 26 with(fail)
         clear Ta;go_upto_if 136 with(fail)
         go_cut [11] (λs11 wx=>s11= .int .i64 lfn/\Hid (vM g ga base n ci m M (λj=>if j=i then S+dl else rI i (λj=>AP (oy ks j)) (λj=>sh (oy ks j)) j) wv wx));case first=>as_aux_lemma=>
          rcases FW with hd0 | hd1
          ·have hgt:decide (0<ln)=false:=X9 (by rw[zA.out,hd0];decide);have ru:Hid (ln=lfn):=X6 (by have:=HLE.out;omega);have HD0:=X6 hd0;have hgp:ln<=0:=(by have:=YS hgt;omega);clear hd0 y0 y1;go_wp2_with fail;go_meet;exact⟨by rw[ru.out],X6 (HJ.Um λj hj=>by
            show(if j=i then S+dl else _)=_;by_cases e:j=i
            ·subst e;rw[YP rfl,zO,BZ.out,HD0.out,aCS,UG.1]
            ·rw[YO e])⟩
          ·have hgt:decide (0<ln)=true:=YC (by rw[zA.out];exact hd1);have w5:IntKind.i64.wrap (S+1)=S+1:=YG _ ⟨by omega,by omega⟩;have w6:IntKind.i64.wrap (ln-1)=ln-1:=YG _ ⟨by omega,by omega⟩;have ru:Hid (ln-1=lfn):=X6 (by have:=HLE.out;omega);have HD0:=X6 hd1;have hgp:0<ln:=YZ hgt;clear hd1;go_wp2_with fail;go_meet;exact⟨by rw[ru.out],X6 (HJ.Zc i (S+1) λj hj=>by show(if j=i then S+dl else _)=_;rw[HD0.out])⟩
         case rest=>as_aux_lemma=>
         obtain⟨rfl,HK⟩:=hcut;obtain⟨wc1,rfl⟩:∃wc1,wc1=wc:=⟨_,rfl⟩;clear y0 y1 c1 HJ;obtain⟨p2,sP,c1⟩:=yX.out wc1 HK.k i nF;obtain rfl:p=p2:=(by injection sP);have To:ks[i]=k:=(by rw[<-BZ.out,qK nF]);rw[To]at c1;clear sP To;have z46:wc1.cell? (g,k*51+46)=bs:=HK.it.cell pz 46 (by rw[UG.2.2];rfl);have y0:wc1.cell? (ga,i)=some (.int .i64 (S+dl)):=HK.am.get i (by rw[tt _ lN];simp);have y1:=HK.am.frozen i;have hdb:0<=dl/\dl<=1:=(by omega);go_upto_region 29 with(fail);go_upto_if 145 with(fail);go_cut [] (λwx=>Hid (vM g ga base n ci m M (rI (i+1) (λj=>AP (oy ks j)) (λj=>sh (oy ks j))) wv wx));case first=>as_aux_lemma=>
          cases grows
          ·have HAE:Hid (bs-(S+dl)=AD):=X6 (by have:=HAD.out;simp at this;omega);have w7:IntKind.i64.wrap (bs-(S+dl))=AD:=(by rw[HAE.out];exact YG _ ⟨by omega,by omega⟩);have E0:=HK.lR (ZN _ _).drew;clear c1 z46 y0 y1;go_upto_region 31 with(fail)
           refine mw (λb _ _ W=>if b then vM g ga base n ci m M (rI (i+1) (λj=>AP (oy ks j)) (λj=>sh (oy ks j))) wv W else vM g ga base n ci m M (λj=>if j=i then S+dl else rI i (λj=>AP (oy ks j)) (λj=>sh (oy ks j)) j) wv W) 15 1000 100000 false true (by kernel_rfl) (by kernel_rfl) (by kernel_rfl) (E0) ?_;refine xN 0 ?_;iterate 15
            refine Ay (v:=?_) ?_ ?_;rotate_left
            ·intro d' u' W' lr;have hq:=show vM g ga base n ci m M (λj=>if j=i then S+dl else rI i (λj=>AP (oy ks j)) (λj=>sh (oy ks j)) j) wv W' from lr;have c1:=(yX.out W' hq.k i nF);obtain⟨p3,yK,c1⟩:=c1;obtain rfl:p=p3:=(by injection yK);rw[show ks[i]=k by rw[<-BZ.out,qK nF]]at c1;have z46:W'.cell? (g,k*51+46)=bs:=hq.it.cell pz 46 (by rw[UG.2.2];rfl);have y0:W'.cell? (ga,i)=some (.int .i64 (S+dl)):=hq.am.get i (by rw[tt _ lN];simp);have y1:=hq.am.frozen i;go_simp;rfl
            try simp only[Act.put,X8,YF,YE,YD,YA,YB]
           refine mE (i:=15) (d:=true) (λW'=>W'.setCell ⟨ga,i,none⟩ (.int .i64 AD)) rfl (by kernel_rfl) (by rfl) (by rfl) (by kernel_rfl) rfl ?_ (λW' lr=>(show vM g ga base n ci m M (λj=>if j=i then S+dl else rI i (λj=>AP (oy ks j)) (λj=>sh (oy ks j)) j) wv W' from lr).Zc i AD (λj hj=>by rw[uZ i m _ _ j hj,BZ.out,<-UG.2.1];by_cases e:j=i<;>simp[e])) ?_
           ·intro W' lr;have hq:=show vM g ga base n ci m M (λj=>if j=i then S+dl else rI i (λj=>AP (oy ks j)) (λj=>sh (oy ks j)) j) wv W' from lr;have c1:=(yX.out W' hq.k i nF);obtain⟨p3,yK,c1⟩:=c1;obtain rfl:p=p3:=(by injection yK);rw[show ks[i]=k by rw[<-BZ.out,qK nF]]at c1;have z46:W'.cell? (g,k*51+46)=bs:=hq.it.cell pz 46 (by rw[UG.2.2];rfl);have y0:W'.cell? (ga,i)=some (.int .i64 (S+dl)):=hq.am.get i (by rw[tt _ lN];simp);have y1:=hq.am.frozen i;go_simp;try rfl
           try simp only[Act.put,X8,YF,YE,YD,YA,YB]
           refine F6 (λwS hS=>?_);have HS:=X6 hS;clear hS;go_wp2_with fail;go_meet;exact HS
          ·have HAE:Hid (bs+(S+dl)=AD):=X6 (by have:=HAD.out;simp at this;omega);have w7:IntKind.i64.wrap (bs+(S+dl))=AD:=(by rw[HAE.out];exact YG _ ⟨by omega,by omega⟩);have E0:=HK.lR (ZN _ _).drew;clear c1 z46 y0 y1;go_upto_region 30 with(fail)
           refine mw (λb _ _ W=>if b then vM g ga base n ci m M (rI (i+1) (λj=>AP (oy ks j)) (λj=>sh (oy ks j))) wv W else vM g ga base n ci m M (λj=>if j=i then S+dl else rI i (λj=>AP (oy ks j)) (λj=>sh (oy ks j)) j) wv W) 15 1000 100000 false true (by kernel_rfl) (by kernel_rfl) (by kernel_rfl) (E0) ?_;refine xN 0 ?_;iterate 15
            refine Ay (v:=?_) ?_ ?_;rotate_left
            ·intro d' u' W' lr;have hq:=show vM g ga base n ci m M (λj=>if j=i then S+dl else rI i (λj=>AP (oy ks j)) (λj=>sh (oy ks j)) j) wv W' from lr;have c1:=(yX.out W' hq.k i nF);obtain⟨p3,yK,c1⟩:=c1;obtain rfl:p=p3:=(by injection yK);rw[show ks[i]=k by rw[<-BZ.out,qK nF]]at c1;have z46:W'.cell? (g,k*51+46)=bs:=hq.it.cell pz 46 (by rw[UG.2.2];rfl);have y0:W'.cell? (ga,i)=some (.int .i64 (S+dl)):=hq.am.get i (by rw[tt _ lN];simp);have y1:=hq.am.frozen i;go_simp;rfl
            try simp only[Act.put,X8,YF,YE,YD,YA,YB]
           refine mE (i:=15) (d:=true) (λW'=>W'.setCell ⟨ga,i,none⟩ (.int .i64 AD)) rfl (by kernel_rfl) (by rfl) (by rfl) (by kernel_rfl) rfl ?_ (λW' lr=>(show vM g ga base n ci m M (λj=>if j=i then S+dl else rI i (λj=>AP (oy ks j)) (λj=>sh (oy ks j)) j) wv W' from lr).Zc i AD (λj hj=>by rw[uZ i m _ _ j hj,BZ.out,<-UG.2.1];by_cases e:j=i<;>simp[e])) ?_
           ·intro W' lr;have hq:=show vM g ga base n ci m M (λj=>if j=i then S+dl else rI i (λj=>AP (oy ks j)) (λj=>sh (oy ks j)) j) wv W' from lr;have c1:=(yX.out W' hq.k i nF);obtain⟨p3,yK,c1⟩:=c1;obtain rfl:p=p3:=(by injection yK);rw[show ks[i]=k by rw[<-BZ.out,qK nF]]at c1;have z46:W'.cell? (g,k*51+46)=bs:=hq.it.cell pz 46 (by rw[UG.2.2];rfl);have y0:W'.cell? (ga,i)=some (.int .i64 (S+dl)):=hq.am.get i (by rw[tt _ lN];simp);have y1:=hq.am.frozen i;go_simp;try rfl
           try simp only[Act.put,X8,YF,YE,YD,YA,YB]
           refine F6 (λwS hS=>?_);have HS:=X6 hS;clear hS;go_wp2_with fail;go_meet;exact HS
         case rest=>as_aux_lemma=>
         have HL:=hcut;obtain⟨wd,rfl⟩:∃wd,wd=wc:=⟨_,rfl⟩;clear c1 z46 y0 y1;obtain⟨cl,oR⟩:∃cl,cl=lF (M k).s c AD:=⟨_,rfl⟩;obtain⟨l1,l2,l3⟩:=HB.zI k xD;have Qm:Hid (∀W,Calls prog 167 #[.agg (lj (M k).s).toArray,c,AD] W (oD (.int .i64 cl) W)):=X6 (λW=>by rw[oR];exact Li (M k).s c AD W l1 l2 HB.c);have hclb: -46000000000000000<=cl/\cl<=46000000000000000:=by
          rw[oR];by_cases he:lF (M k).s c AD=AD
          ·rw[he];exact Lp
          ·have:=xC l1 l2 HB.c he;omega
         rw[<-oR]at HTU;have HTT2:Hid (((ks.take (i+1)).map (yo M c ad)).sum=TT+cl-AD):=X6 (by rw[OC.1,HTU.out];omega);clear oR l1 l2 l3;have w8:IntKind.i64.wrap (TT+cl)=TT+cl:=YG _ ⟨by omega,by omega⟩;have w9:IntKind.i64.wrap (TT+cl-AD)=TT+cl-AD:=YG _ ⟨by omega,by omega⟩;go_upto_region 32 with(fail)
         have E0:=HL.lR (ZN _ _).drew;refine mw (λ_ _ _ W=>vM g ga base n ci m (M) (rI (i+1) (λj=>AP (oy ks j)) (λj=>sh (oy ks j))) wv W) 1000 1000 100000 true true (by kernel_rfl) (by kernel_rfl) (by kernel_rfl) (E0) ?_;refine xN 0 ?_;iterate 7
          refine nxP (v:=?_) ?_ ?_;rotate_left
          ·intro b' d' u' W' lr;have c1:=(yX.out W' lr.k i nF);obtain⟨p3,yK,c1⟩:=c1;obtain rfl:p=p3:=(by injection yK);rw[show ks[i]=k by rw[<-BZ.out,qK nF]]at c1;have y0:W'.cell? (ga,i)=AD:=lr.am.get i (by rw[tt _ lN];unfold rI;rw[YP (by omega)];show some (Value.int .i64 (AP (oy ks i)))=_;rw[BZ.out,<-UG.2.1]);go_simp;rfl
          try simp only[Act.put,X8,YF,YE,YD,YA,YB]
         refine lW (i:=7) (v:= .agg (lj (M k).s).toArray) rfl (by kernel_rfl) (by kernel_rfl) (by kernel_rfl) (λ_ _ _ h=>h) (by rfl) (nX ?_) ?_
         ·refine mK (by rfl) 63 (.tmp 182) rfl (⟨g,k*51,none⟩) rfl (lj (M k).s) _ ?_ underlying63 rfl (by kernel_rfl);rintro W' ⟨b',d',u',lr⟩;exact lr.it.rng pz
         try simp only[Act.put,X8,YF,YE,YD,YA,YB]
         refine xN 8 ?_;iterate 5
          refine nxP (v:=?_) ?_ ?_;rotate_left
          ·intro b' d' u' W' lr;have c1:=(yX.out W' lr.k i nF);obtain⟨p3,yK,c1⟩:=c1;obtain rfl:p=p3:=(by injection yK);rw[show ks[i]=k by rw[<-BZ.out,qK nF]]at c1;have y0:W'.cell? (ga,i)=AD:=lr.am.get i (by rw[tt _ lN];unfold rI;rw[YP (by omega)];show some (Value.int .i64 (AP (oy ks i)))=_;rw[BZ.out,<-UG.2.1]);go_simp;rfl
          try simp only[Act.put,X8,YF,YE,YD,YA,YB]
         refine lW (i:=13) (v:= .int .i64 cl) rfl (by kernel_rfl) (by kernel_rfl) (by kernel_rfl) (λ_ _ _ h=>h) (by rfl) (yU (by rfl) _ _ ?_ (λb' d' u' W' lr=>(Qm.out W').mono (λ_ _ h=>⟨h.1,lr.lR h.2⟩))) ?_
         ·intro W';first | rfl | kernel_rfl
         try simp only[Act.put,X8,YF,YE,YD,YA,YB]
         refine xN 14 ?_;iterate 7
          refine nxP (v:=?_) ?_ ?_;rotate_left
          ·intro b' d' u' W' lr;have c1:=(yX.out W' lr.k i nF);obtain⟨p3,yK,c1⟩:=c1;obtain rfl:p=p3:=(by injection yK);rw[show ks[i]=k by rw[<-BZ.out,qK nF]]at c1;have y0:W'.cell? (ga,i)=AD:=lr.am.get i (by rw[tt _ lN];unfold rI;rw[YP (by omega)];show some (Value.int .i64 (AP (oy ks i)))=_;rw[BZ.out,<-UG.2.1]);go_simp;rfl
          try simp only[Act.put,X8,YF,YE,YD,YA,YB]
         refine F6 (λwS hS=>?_);have HS:=X6 hS;clear hS E0;go_wp2_with fail;go_roundw;case rel=>exact⟨i+1,by omega,by go_num,by rw[OC.2,vQ.out],by rw[HTT2.out],HS⟩
         case measure=>simp[intOf]<;>omega
        ·have HAE:Hid (yo M c ad k=0/\(M k).held=true/\sh k=0):=X6 ⟨by unfold yo;rw[<-yW,YP rfl],yW.symm,by rw[HSH.out];unfold um;rw[<-yW,YP rfl]⟩;clear RP hTT hk yW R6;go_wp2_with fail;go_roundw;case rel=>exact⟨i+1,by omega,by go_num,by rw[OC.2,HAE.2.1,YP rfl,aCS],by rw[OC.1,HAE.1,aCS],X6 (HJ.Um λj hj=>by
          rw[uZ i m _ _ j hj];by_cases e:j=i
          ·subst e;rw[YP rfl,zO,BZ.out,HAE.2.2,HAH.out,HAE.2.1,YP rfl]
          ·rw[YO e])⟩
         case measure=>simp[intOf]<;>omega
       ·have q0:decide ((i:Int)<(m:Int))=false:=X9 (by omega);have yF:decide (i<m)=false:=X9 lN;have GM:i=m:=(by omega);have HWAY:Hid (way=vo TT 0):=X6 (by rw[HX.tE,hTT,GM,HM.out,ZZ];rfl);obtain⟨RR,hRR⟩:∃RR,RR=nI (qq c M ks) grows M ks:=⟨_,rfl⟩;have HFIN:Hid ((∀k∈ks,rr (RR k)=if(M k).held then rr (M k)else if way=0\/vo (lF (M k).s c (ad k)) (ad k)=way then rr {M k with held:=true,width:=lF (M k).s c (ad k)}else rr (M k))/\∀k,k∉ks->RR k=M k):=X6 (by rw[hRR];exact⟨HX.fin,HX.out.out⟩);have Hg:=X6 hRR;have HJ3:Hid (vM g ga base n ci m (stM M RR ks 0) (λj=>AP (oy ks j)) wv wr):=X6 ((HJ.Um (b:=λj=>AP (oy ks j)) λj hj=>by rw[GM,K9 m _ _ j hj]).same λk _=>by unfold stM;rw[ZB,YO (by simp)]);clear hRR hTT RP GM;go_wp2_with fail;obtain⟨wz,rfl⟩:∃wz,wz=wr:=⟨_,rfl⟩;clear q0 yF lN HJ JN;go_loopw [15] (λkv wr=>∃i:Nat,i<=m/\kv= .int .i64 i/\Hid (vM g ga base n ci m (stM M RR ks i) (λj=>AP (oy ks j)) wv wr)) (λkv _=>m-(intOf kv).toNat);case atStart=>exact⟨0,by omega,rfl,HJ3⟩
        case round=>as_aux_lemma=>
         obtain⟨i,hi,rfl,HJ⟩:=hrel;by_cases lN:i<m;rotate_left
         ·have q0:decide ((i:Int)<(m:Int))=false:=X9 (by omega);have yF:decide (i<m)=false:=X9 lN;have V4:Hid (yQ g base n ci RR wr):=X6 (HJ.it.same λk _=>by
           unfold stM;rw[YY (by rw[<-HM.out];omega)];by_cases hk:k∈ks
           ·rw[YP hk]
           ·rw[YO hk,HFIN.2 k hk])
          go_wp2_with fail;go_end0;exact⟨rfl,by rw[<-Hg.out];exact V4.out,HJ.k⟩
         have q0:decide ((i:Int)<(m:Int))=true:=YC (by omega);have yF:decide (i<m)=true:=YC lN;have wQ:(i:Int)<(m:Int):=(by omega);have Ep:(0:Int)<=(i:Int):=(by omega);have wi:IntKind.i64.wrap ((i:Int)+1)=(i:Int)+1:=YG _ ⟨by omega,by omega⟩;have nF:i<ks.length:=(by rw[<-HM.out];exact lN);obtain⟨k,hk⟩:∃k,k=ks[i]:=⟨_,rfl⟩;have xD:k∈ks:=(by rw[hk];exact YJ nF);have pz:=HN.out k xD;obtain⟨p,hA,c1⟩:=yX.out wr HJ.k i nF;rw[<-hk]at c1;subst hA;have BZ:Hid (oy ks i=k):=X6 (by rw[qK nF,hk]);have rT:Hid (stM M RR ks i k=M k/\stM M RR ks (i+1) k=RR k/\∀j,j≠k->stM M RR ks (i+1) j=stM M RR ks i j):=X6 (by rw[hk];exact⟨OV HB.nd nF,OH nF,λj hj=>GO nF hj⟩);obtain⟨hd,yW⟩:∃hd,hd=(M k).held:=⟨_,rfl⟩;have Ta:wr.cell? (g,k*51+49)=hd:=HJ.it.cell pz 49 (by rw[rT.1,yW];rfl);clear hk;cases hd;rotate_left
         ·have HEQ:Hid (rr (RR k)=rr (M k)):=X6 (by rw[HFIN.1 k xD,<-yW,YP rfl]);clear yW;go_wp2_with fail;go_roundw;case rel=>exact⟨i+1,by omega,by go_num,X6 (HJ.same λj _=>by
           by_cases e:j=k
           ·subst e;rw[rT.2.1,HEQ.out,rT.1]
           ·rw[rT.2.2 j e])⟩
          case measure=>simp[intOf]<;>omega
         obtain⟨AD,hAD⟩:∃AD,AD=ad k:=⟨_,rfl⟩;obtain⟨cl,oR⟩:∃cl,cl=lF (M k).s c AD:=⟨_,rfl⟩;have Lp:=HX.adB k xD yW.symm;rw[<-hAD]at Lp;obtain⟨l1,l2,l3⟩:=HB.zI k xD;have Qm:Hid (∀W,Calls prog 167 #[.agg (lj (M k).s).toArray,c,AD] W (oD (.int .i64 cl) W)):=X6 (λW=>by rw[oR];exact Li (M k).s c AD W l1 l2 HB.c);have hclb: -46000000000000000<=cl/\cl<=46000000000000000:=by
          rw[oR];by_cases he:lF (M k).s c AD=AD
          ·rw[he];exact Lp
          ·have:=xC l1 l2 HB.c he;omega
         obtain⟨hb,hhb⟩:∃hb:Bool,hb=decide (way=0\/vo cl AD=way):=⟨_,rfl⟩;have HEQ:Hid (rr (RR k)=if hb=true then rr {M k with held:=true,width:=cl}else rr (M k)):=X6 (by
          rw[HFIN.1 k xD,<-yW,YO (by simp),<-hAD,<-oR,hhb];by_cases hq:way=0\/vo cl AD=way
          ·rw[YP hq,YP (YC hq)]
          ·rw[YO hq,YO (by simp[hq])])
         have HHB:=X6 hhb;have HAK:Hid (AP (oy ks i)=AD):=X6 (by rw[BZ.out,HAH.out,<-yW,YO (by simp),hAD]);clear yW hAD oR hhb l1 l2 l3;have w8:IntKind.i64.wrap (cl-AD)=cl-AD:=YG _ ⟨by omega,by omega⟩;go_upto_region 37 with(fail)
         clear c1 Ta;have E0:=HJ.lR (ZN _ _).drew;refine mw (λ_ _ _ W=>vM g ga base n ci m (stM M RR ks i) (λj=>AP (oy ks j)) wv W) 1000 1000 100000 true true (by kernel_rfl) (by kernel_rfl) (by kernel_rfl) (E0) ?_;refine xN 0 ?_;iterate 6
          refine nxP (v:=?_) ?_ ?_;rotate_left
          ·intro b' d' u' W' lr;have c1:=(yX.out W' lr.k i nF);obtain⟨p3,yK,c1⟩:=c1;obtain rfl:p=p3:=(by injection yK);rw[show ks[i]=k by rw[<-BZ.out,qK nF]]at c1;have y0:W'.cell? (ga,i)=AD:=lr.am.get i (by rw[tt _ lN];rw[HAK.out]);go_simp;rfl
          try simp only[Act.put,X8,YF,YE,YD,YA,YB]
         refine lW (i:=6) (v:= .agg (lj (M k).s).toArray) rfl (by kernel_rfl) (by kernel_rfl) (by kernel_rfl) (λ_ _ _ h=>h) (by rfl) (nX ?_) ?_
         ·refine mK (by rfl) 63 (.tmp 214) rfl (⟨g,k*51,none⟩) rfl (lj (M k).s) _ ?_ underlying63 rfl (by kernel_rfl);rintro W' ⟨b',d',u',lr⟩;exact(by have h:=lr.it.rng pz;rw[rT.1]at h;exact h)
         try simp only[Act.put,X8,YF,YE,YD,YA,YB]
         refine xN 7 ?_;iterate 5
          refine nxP (v:=?_) ?_ ?_;rotate_left
          ·intro b' d' u' W' lr;have c1:=(yX.out W' lr.k i nF);obtain⟨p3,yK,c1⟩:=c1;obtain rfl:p=p3:=(by injection yK);rw[show ks[i]=k by rw[<-BZ.out,qK nF]]at c1;have y0:W'.cell? (ga,i)=AD:=lr.am.get i (by rw[tt _ lN];rw[HAK.out]);go_simp;rfl
          try simp only[Act.put,X8,YF,YE,YD,YA,YB]
         refine lW (i:=12) (v:= .int .i64 cl) rfl (by kernel_rfl) (by kernel_rfl) (by kernel_rfl) (λ_ _ _ h=>h) (by rfl) (yU (by rfl) _ _ ?_ (λb' d' u' W' lr=>(Qm.out W').mono (λ_ _ h=>⟨h.1,lr.lR h.2⟩))) ?_
         ·intro W';first | rfl | kernel_rfl
         try simp only[Act.put,X8,YF,YE,YD,YA,YB]
         refine Ce [13] ?_;refine Pv (y:=by intro b' d' u' W' lr;have c1:=(yX.out W' lr.k i nF);obtain⟨p3,yK,c1⟩:=c1;obtain rfl:p=p3:=(by injection yK);rw[show ks[i]=k by rw[<-BZ.out,qK nF]]at c1;have y0:W'.cell? (ga,i)=AD:=lr.am.get i (by rw[tt _ lN];rw[HAK.out]);go_simp;rfl) (h:=?_);refine Ch ?_;refine F6 (λwS hS=>?_);have HS:=X6 hS;clear hS E0;have y0:wS.cell? (ga,i)=AD:=HS.am.get i (by rw[tt _ lN,HAK.out]);go_upto_region 39 with(fail)
         clear y0;go_cut [245] (λsx wx=>sx= .bool hb/\wS=wx);case first=>as_aux_lemma=>
          have Tq:=HHB.out;rw[HWAY.out]at Tq;rcases Int.lt_trichotomy TT 0 with ht | ht | ht
          ·have t1:(TT == 0)=false:=ZO.2 (by omega);have t2:decide (0<TT)=false:=X9 (by omega);have t3:decide (TT<0)=true:=YC ht;have HE:Hid (hb=decide (cl-AD<0)):=X6 (by
            rw[Tq];unfold vo;rw[YP ht];by_cases h1:cl<AD
            ·rw[YP h1,YC (show cl-AD<0 by omega)];rfl
            ·rw[YO h1,X9 (show¬cl-AD<0 by omega)]
             split<;>rfl)
           clear Tq ht;go_wp2_with fail;go_meet;exact⟨by rw[HE.out],rfl⟩
          ·have HE:Hid (hb=true):=X6 (by rw[Tq,ht];exact YC (.inl rfl));have t1:(TT == 0)=true:=ZR.2 ht;clear Tq ht;go_wp2_with fail;go_meet;exact⟨by rw[HE.out],rfl⟩
          ·have t1:(TT == 0)=false:=ZO.2 (by omega);have t2:decide (0<TT)=true:=YC ht;have t3:decide (TT<0)=false:=X9 (by omega);cases t5:decide (AD<cl)
           ·have t4:decide (0<cl-AD)=false:=X9 (by have:=YS t5;omega);have HE:Hid (hb=false):=X6 (by
             have h4:=YS t4;rw[Tq];unfold vo;rw[YO (show¬TT<0 by omega),YP ht];by_cases h1:cl<AD
             ·rw[YP h1];rfl
             ·rw[YO h1,YO (show¬AD<cl by omega)];rfl)
            clear Tq ht;go_wp2_with fail;go_meet;exact⟨by rw[HE.out],rfl⟩
           ·have t4:decide (0<cl-AD)=true:=YC (by have:=YZ t5;omega);have HE:Hid (hb=true):=X6 (by have h4:=YZ t4;rw[Tq];unfold vo;rw[YO (show¬TT<0 by omega),YP ht,YO (show¬cl<AD by omega),YP (show AD<cl by omega)];rfl);clear Tq ht;go_wp2_with fail;go_meet;exact⟨by rw[HE.out],rfl⟩
         case rest=>as_aux_lemma=>
         obtain⟨rfl,rfl⟩:=hcut;cases hb
         ·have HEF:Hid (rr (RR k)=rr (M k)):=X6 HEQ.out;go_wp2_with fail;go_roundw;case rel=>exact⟨i+1,by omega,by go_num,X6 (HS.same λj _=>by
           by_cases e:j=k
           ·subst e;rw[rT.2.1,HEF.out,rT.1]
           ·rw[rT.2.2 j e])⟩
          case measure=>simp[intOf]<;>omega
         ·have HEF:Hid (rr (RR k)=rr {M k with held:=true,width:=cl}):=X6 HEQ.out;obtain⟨p2,sP,c1⟩:=yX.out wS HS.k i nF;obtain rfl:p=p2:=(by injection sP);have To:ks[i]=k:=(by rw[<-BZ.out,qK nF]);rw[To]at c1;clear sP;have Ta:wS.cell? (g,k*51+49)=some (.bool (M k).held):=HS.it.cell pz 49 (by rw[rT.1];rfl);have x49f:=HS.it.frozen (k*51+49);go_upto_region 41 with(fail)
          clear Ta x49f c1;have Dm:Hid (vM g ga base n ci m (λq=>if q=k then {M k with held:=true}else stM M RR ks i q) (λj=>AP (oy ks j)) wv (wS.setCell (g,k*51+49) (.bool true))):=X6 (HS.oZ pz 49 (.bool true) (by omega) (by
           show(rr (stM M RR ks i k)).set 49 (.bool true)=rr (if k=k then _ else _);rw[rT.1,YP rfl];rfl) (λq hq=>by
           show rr (if q=k then _ else _)=_;rw[YO hq]))
          obtain⟨w2,ph⟩:∃w2,w2=wS.setCell (g,k*51+49) (.bool true):=⟨_,rfl⟩;rw[<-ph]at Dm⊢;clear ph;obtain⟨p2,sP,c1⟩:=yX.out w2 Dm.k i nF;obtain rfl:p=p2:=(by injection sP);rw[To]at c1;clear sP To;have x50:w2.cell? (g,k*51+50)=some (.int .i64 (M k).width):=Dm.it.cell pz 50 (by rw[YP rfl];rfl);have x50f:=Dm.it.frozen (k*51+50);have S5:Hid (vM g ga base n ci m (stM M RR ks (i+1)) (λj=>AP (oy ks j)) wv (w2.setCell (g,k*51+50) cl)):=X6 (Dm.oZ pz 50 (.int .i64 cl) (by omega) (by
           show(rr (if k=k then _ else _)).set 50 (.int .i64 cl)=_;rw[YP rfl,rT.2.1,HEF.out];rfl) (λq hq=>by
           show _=rr (if q=k then _ else _);rw[YO hq,rT.2.2 q hq]))
          go_wp2_with fail;go_roundw;case rel=>exact⟨i+1,by omega,by go_num,S5⟩
          case measure=>simp[intOf]<;>omega
end
section
attribute [local go_sem] lp
theorem el_rip:El prog 254 255 (.pointer none) 1 8:=⟨underlying254,by kernel_rfl,rfl,by decide⟩
theorem NI(c:Int)(M:Nat->It)(ks:List Nat):BH c M ks=decide ((ks.map (pY M)).sum<c):=by
 have:=sum_add ks (λk=>(M k).mY) (λk=>(M k).guess);unfold BH qq tc;have e:(ks.map (pY M)).sum=(ks.map λk=>(M k).mY+(M k).guess).sum:=rfl;rw[e,this];have e3:∀(a b:Int),(b<c-a)↔(a+b<c):=λa b=>by omega
 exact decide_eq_decide.2 (e3 _ _)
def C8(k:Nat)(y:It)(M:Nat->It)(q:Nat):It:=if q=k then y else M q
theorem Ea(k:Nat)(y:It)(M:Nat->It):C8 k y M k=y:=YP rfl
theorem IX{k q:Nat}(y:It)(M:Nat->It)(h:q≠k):C8 k y M q=M q:=YO h
structure vR(g base n ci:Nat)(M:Nat->It)(w W:World):Prop where
 it:yQ g base n ci M W
 k:Kp (λb=>b=g) w W
section
variable{g base n ci kk:Nat}{M M2:Nat->It}{y y2:It}{w W W':World}
theorem vR.lR(h:vR g base n ci M w W)(hb:Below W.heap.size W W'):vR g base n ci M w W':=
 ⟨h.it.kp (Kp.nD hb (λ_=>False)) (λh=>h),h.k.trans (Kp.nD hb _)⟩
theorem vR.drewN(h:vR g base n ci M w W)(i:Nat):vR g base n ci M w (W.drewN i):=⟨h.it.drewN i,h.k.drewN i⟩
theorem vR.put(h:vR g base n ci (C8 kk y M) w W)(hk:kk<n)(j:Nat)(u:Value)(hj:j<51)(he:(rr y).set j u=rr y2):vR g base n ci (C8 kk y2 M) w (W.setCell (g,kk*51+j) u):=
 ⟨h.it.set hk j u hj (by rw[Ea,Ea];exact he) (λi hi=>by rw[IX _ _ hi,IX _ _ hi]),h.k.setCell (p:=(g,kk*51+j)) (.inl rfl) _⟩
theorem vR.same(h:vR g base n ci M w W)(he:∀k,k<n->rr (M2 k)=rr (M k)):vR g base n ci M2 w W:=⟨h.it.same he,h.k⟩
theorem vR.cell(h:vR g base n ci (C8 kk y M) w W)(hk:kk<n)(j:Nat){u:Value}(hu:(rr y)[j]? =some u):W.cell? (g,kk*51+j)=some u:=h.it.cell hk j (by rw[Ea];exact hu)
end
theorem Uv{c:Int}{gr:Bool}{M M':Nat->It}{ks:List Nat}(hf:∀k∈ks,I8 (M k))(hc:∀k∈ks,(M k).c=c)(vk:CB c)(hr:OL gr M M' ks)(mI:lX M' ks≠[])(hd:ks.Nodup)(hl:ks.length<=1000):RndB c M' ks:=by
 refine⟨λk hk=>by rw[(hr.same k hk).mY];exact(hf k hk).mY,λk hk=>by rw[(hr.same k hk).base];exact(hf k hk).base,?_,λk hk hh=>?_,λk hk=>?_,vk,mI,hd,hl⟩
 ·rcases hr.wd with h1 | h1
  ·exact h1
  ·exfalso;obtain⟨k,hk⟩:=aC0 _ mI;obtain⟨h2,h3⟩:=ZI.1 hk;rw[(h1 k h2).1]at h3;cases h3
 ·have hs:=hr.un k hk hh;rw[hr.Yj k hk];have h1:=Pu (grows:=gr) (hf k hk);have h2:=facI_nn (hf k hk) hs;have h3:Cm gr (M k)≠0:=λe=>by unfold Az at hs;rw[YC e]at hs;simp at hs
  omega
 ·have hs:=hr.same k hk;rw[hs.s,hs.c];exact⟨(hf k hk).mz,(hf k hk).my,hc k hk⟩
theorem Rn{c:Int}{gr:Bool}{M M':Nat->It}{ks:List Nat}(hr:OL gr M M' ks):qq c M' ks=qq c M ks:=by unfold qq tc;rw[aAX (g:=λk=>(M k).mY) λk hk=>(hr.same k hk).mY]
theorem Ww{c:Int}{gr:Bool}{M M':Nat->It}{ks:List Nat}(hf:∀k∈ks,I8 (M k))(hc:∀k∈ks,(M k).c=c)(vk:CB c)(hr:OL gr M M' ks)(mI:lX M' ks≠[])(hd:ks.Nodup)(hl:ks.length<=1000):OL gr M (nI (qq c M' ks) gr M' ks) ks:=by
 have hb:=Uv hf hc vk hr mI hd hl;obtain⟨rest,all,mD,lf,ad,way,hN⟩:=rnd_n (grows:=gr) hb;refine hr.round hf mI λk hk=>?_;have nt:∀k∈lX M' ks,k∈ks/\(M' k).held=false:=λk hk=>by obtain⟨h1,h2⟩:=ZI.1 hk;exact⟨h1,by simpa using h2⟩
 have h1:=aim_bd (grows:=gr) (M:=M') (oth:=lX M' ks) (rest:=vN (qq c M' ks) M' ks) (by rw[<-hN.rE];have:=hN.rB;omega) (λk hk=>by have:=hb.Yj k (nt k hk).1 (nt k hk).2;omega) (λk hk=>hb.base k (nt k hk).1)
  (λk hk=>by rw[<-hN.allE];exact hN.fle k (nt k hk).1 (nt k hk).2) k hk
 omega
theorem aaC{c:Int}{M M':Nat->It}{ks:List Nat}(hr:OL (BH c M ks) M M' ks)(h:lX M' ks=[]):∀k∈ks,0<=(M' k).width/\(M' k).width<=9223372036854775807:=λk hk=>by
 have hh:(M' k).held=true:=by
  cases hx:(M' k).held
  ·have:k∈lX M' ks:=ZI.2 ⟨hk,by rw[hx];rfl⟩;rw[h]at this;cases this
  ·rfl
 rcases hr.wd with h1 | h1
 ·have:=h1 k hk hh;omega
 ·exact(h1 k hk).2
structure UW(g base n ci lo hi:Nat)(Ai:Option Addr)(v:Value)(R:List (List Nat))(M:Nat->It)(w W:World):Prop where
 own:W.ownsRow base 223 51 (.slice Ai n ci) n (xP M n)
 rws:qa W lo hi v R
 k:Kp (λb=>b=g) w W
 gl:g<lo
 hw:hi<=w.heap.size
 ai:0<n->Ai=some ⟨g,0,none⟩
section
variable{g base n ci lo hi:Nat}{Ai:Option Addr}{v:Value}{R:List (List Nat)}{M M2:Nat->It}{w W W':World}
theorem UW.lR(h:UW g base n ci lo hi Ai v R M w W)(hb:Below W.heap.size W W'):UW g base n ci lo hi Ai v R M w W':=
 ⟨xu h.own (Kp.nD hb (λ_=>False)) (λ_ _ h=>h),h.rws.below (hb.mono (YL h.hw h.k.size)),h.k.trans (Kp.nD hb _),h.gl,h.hw,h.ai⟩
theorem UW.turn(h:UW g base n ci lo hi (some ⟨g,0,none⟩) v R M w W)(LC:yQ g base n ci M2 W')(hk:Kp (λb=>b=g) W W'):UW g base n ci lo hi (some ⟨g,0,none⟩) v R M2 w W':=
 ⟨LC.own,h.rws.keep (λp h1 h2=>hk.cell (by have:=h.hw;have:=h.k.size;omega) (λe=>by have:=h.gl;omega)),h.k.trans hk,h.gl,h.hw,h.ai⟩
theorem UW.it(h:UW g base n ci lo hi (some ⟨g,0,none⟩) v R M w W):yQ g base n ci M W:=⟨h.own⟩
end
structure BF(s:me)(c:Int)(l:List me)(got:List Cn)(w w':World)(e:Ending):Prop where
 ex:∃Au cu Ab cb,e= .returned (.tuple #[.slice Au l.length cu,.slice Ab l.length cb])/\Reads w' w'.heap.size 3 Au l.length (ow (λk=>uW (uh s c l got k)) l.length)/\
  Reads w' w'.heap.size 1 Ab l.length (oH (λk=>qZ (uh s c l got k)) l.length)
 b:Below w.heap.size w w'
 fr:∀Au cu Ab cb,e= .returned (.tuple #[.slice Au l.length cu,.slice Ab l.length cb])->(∀ad,Au=some ad->w.heap.size<=ad.block)/\∀ad,Ab=some ad->w.heap.size<=ad.block
theorem Ig{A1 A2 B1 B2:Option Addr}{n m n2 m2 c1 c2 d1 d2:Nat}(h:Ending.returned (.tuple #[.slice A1 n c1,.slice B1 m d1])= .returned (.tuple #[.slice A2 n2 c2,.slice B2 m2 d2])):A1=A2/\B1=B2:=by simp at h;exact⟨h.1.1,h.2.1⟩
theorem Sz(p:Nat->Bool)(m:Nat):oH p (m+1)=oH p m++[.bool (p m)]:=by simp[oH,Xb]
theorem numF_id{x:Int}(h: -9223372036854775808<=x/\x<=9223372036854775807):VY x=x:=by unfold VY;split<;>(try split)<;>omega
theorem Gw(c:Int):∀(rows:List (List Nat)) (M:Nat->It) (k:Nat),qN (M k) (sB c M rows k)
 | [],M,k=>qN.refl _
 | r::t,M,k=>(T6 c M r k).trans (Gw c t (zY c M r) k)
theorem Sh{W:World}{lo hi n c r:Nat}{A:Option Addr}{R:List (List Nat)}(h:qa W lo hi (.slice A n c) R)(hr:r<R.length): ∃g Ar cr,A=some ⟨g,0,none⟩/\W.cell? ⟨g,r,none⟩=some (.slice Ar (rowAt R r).length cr)/\Reads W hi 1 Ar (rowAt R r).length (nM (rowAt R r)):=by obtain⟨A',c',e,_,hx⟩:=h.ex;injection e with e1 e2 e3;subst e1;obtain⟨g,hA,_,hB,hp⟩:=hx (by omega);obtain⟨Ar,cr,h1,_,h2,_⟩:=hp r hr;exact⟨g,Ar,cr,hA,h1,h2⟩
end
section
attribute [local go_sem] lp
theorem NR(s:me)(c:Int)(l:List me)(got:List Cn)(A Ag:Option Addr)(ck cg:Nat)(w:World)(hn:l.length<=1000)(hr:Reads w w.heap.size 43 A l.length (nh l))(huv:∀s∈l,∃Au nu cu,s.uv= .slice Au nu cu) (hg:Reads w w.heap.size 4 Ag got.length (ly got)) (hc:CB c) (hs:∀s∈l,StX s) (BR:∀x∈got,0<=x.lC/\x.lC<=1099511627776): Calls prog 96 #[.agg (lj s).toArray,.int .i64 c,.slice A l.length ck,.slice Ag got.length cg] w λe w'=>BF s c l got w w' e:=by
 have Cr:=X6 (λW (hb:Below w.heap.size w W)=>Dz c l got A Ag ck cg W hn ((hr.below hb).more hb.size) huv ((hg.below hb).more hb.size) hc (λx h=>(hs x h).m) BR);have WX:=X6 (λW (hb:Below w.heap.size w W)=>He s c l got A Ag ck cg W hn ((hr.below hb).more hb.size) huv ((hg.below hb).more hb.size) hc (λx h=>(hs x h).m) BR);have HFB:Hid (∀k,k<l.length->I8 (xr l c got k)):=X6 (λk hk=>Wj hs hc BR k hk);have JZ:Hid (∀k,(xr l c got k).c=c/\(xr l c got k).held=false/\(xr l c got k).factor=0/\(xr l c got k).width=0):=X6 (λk=>⟨rfl,rfl,rfl,rfl⟩);have HLR:Hid (∀k,k<l.length->(-30000000000000<=(xr l c got k).left/\(xr l c got k).left<=30000000000000)/\(-30000000000000<=(xr l c got k).right/\(xr l c got k).right<=30000000000000)):=X6 (λk hk=>by have hx:=(hs l[k] (YJ hk)).m;have h1:=nP hx.m3 hc;have h2:=nP hx.m1 hc;have e1:(xr l c got k).left=(mj (stK l k).m3 c).1:=rfl;have e2:(xr l c got k).right=(mj (stK l k).m1 c).1:=rfl;rw[e1,e2,Jp hk];omega);have Gf:Hid ((sw s.wrap c (pY (xr l c got)) (nc (pT l) l.length)).flatten=nc (pT l) l.length/\∀r∈sw s.wrap c (pY (xr l c got)) (nc (pT l) l.length),r≠[]):=X6 ⟨(xp s.wrap c (pY (xr l c got)) (nc (pT l) l.length)).flat,(xp s.wrap c (pY (xr l c got)) (nc (pT l) l.length)).ne⟩;have XW:Hid (uh s c l got=sB c (xr l c got) (sw s.wrap c (pY (xr l c got)) (nc (pT l) l.length))):=X6 rfl;have JT:=X6 hc;have vk:=hc.b;clear hr hg huv hs BR hc;obtain⟨n,mI⟩:∃n,n=l.length:=⟨_,rfl⟩;rw[<-mI]at Cr WX HFB HLR hn⊢;have HN:=X6 mI;clear mI;obtain⟨m,Dd⟩:∃m,m=got.length:=⟨_,rfl⟩;rw[<-Dd]at Cr WX⊢;clear Dd;go_enter func96,ntmps96;go_upto_region 1 with(fail)
 have H1:Hid (Below w.heap.size w (w.alloc (.cells (lj s).toArray 63))/\lq (w.alloc (.cells (lj s).toArray 63)) w.heap.size 63 (lj s).toArray):=X6 ⟨UH (ZN _ _) _,lq.new _ _ _⟩;obtain⟨gs,rL⟩:∃gs,gs=w.heap.size:=⟨_,rfl⟩;obtain⟨w1,mW⟩:∃w1,w1=w.alloc (.cells (lj s).toArray 63):=⟨_,rfl⟩;have HE:Hid (w.alloc (.cells (lj s).toArray 63)=w1):=X6 mW.symm;rw[<-mW,<-rL]at H1;rw[<-rL];first | rw[HE.out] | (rw[show(w.alloc _)=w1 from HE.out])
 have T9:=X6 rL;clear mW HE rL;rw[<-T9.out]at Cr WX;have Cu:Hid (gs<w1.heap.size):=X6 H1.2.lt;go_upto_region 2 with(go_at_call 136;refine(Cr.out w1 H1.1).mono ?_;rintro e w2 ⟨⟨v1,rfl,lV⟩,mr⟩;obtain⟨Ai,ci,TF⟩:=lZ lV;subst TF;have H2:=X6 (And.intro lV (show Below w1.heap.size w1 w2 from mr));clear lV mr)
 have nx:Hid (Below gs w w2):=X6 (H1.1.trans (H2.2.mono (Ra Cu.out)));have T8:Hid (w2.rangeAt gs 0 (lj s)):=X6 (rk (H1.2.below H2.2 H1.2.lt) λq v hv=>by rw[ZX];exact hv);go_upto_region 3 with(first
  | refine wpList_load_mid rfl 63 (.tmp 4) rfl gs 0 rfl (lj s) _ T8.out underlying63 rfl (by kernel_rfl) ?_
  | (go_at_call 79;refine(WX.out w2 nx.out).mono ?_;rintro e w3 ⟨⟨v2,rfl,ES⟩,pn⟩;obtain⟨Av,cv,E4,_⟩:=ES.ex;subst E4;have H3:=X6 (And.intro ES (show Below w2.heap.size w2 w3 from pn));clear ES pn))
 obtain⟨M,hM⟩:∃M,M=xr l c got:=⟨_,rfl⟩;rw[<-hM]at H2 H3 HFB JZ HLR Gf XW⊢;clear hM;obtain⟨R,hR⟩:∃R,R=sw s.wrap c (pY M) (nc (pT l) l.length):=⟨_,rfl⟩;rw[<-hR]at H3 Gf XW⊢;have SP:Hid (R.flatten=nc (pT l) l.length/\(∀r∈R,r≠[])/\R.flatten.Nodup/\(∀k,k∈R.flatten↔k<n)/\R.length<=n/\R.flatten.length=n):=X6 (by
  have hf:R.flatten=nc (pT l) l.length:=Gf.1;have mI:∀r∈R,r≠[]:=Gf.2;have hl:R.flatten.length=n:=by rw[hf,vI,HN.out]
  refine⟨hf,mI,by rw[hf];exact JE _ _,λk=>by rw[hf,HN.out];exact tD _ _ _,by rw[<-hl];exact zt mI,hl⟩)
 clear hR Gf;have HG:Hid (∃g base lo,w.heap.size<=g/\UW g base n ci lo w3.heap.size Ai (.slice Av R.length cv) R M w3 w3):=X6 (by
  have h3:=H3.1;have lV:=xu H2.1 (Kp.nD H3.2 (λ_=>False)) (λ_ _ h=>h);have Tp:w1.heap.size<=w2.heap.size:=H2.2.size;have hgw:w.heap.size<=w1.heap.size:=H1.1.size;have e:xP M n=Bo M n:=(ris_rfs M n λk _=>⟨(JZ.out k).2.2.1,(JZ.out k).2.1,(JZ.out k).2.2.2⟩).symm;rcases aAN n with h0 | h0
  ·exact⟨w.heap.size,_,w2.heap.size,X7 _,by rw[e];exact lV,h3,Kp.refl _ _,by have:=Cu.out;have:=T9.out;omega,X7 _,λh=>by omega⟩
  ·obtain⟨g,c',hv,lN,Ky⟩:=H2.1.form h0;injection hv with TF;refine⟨g,_,w2.heap.size,by omega,by rw[e];exact lV,h3,Kp.refl _ _,Ky,X7 _,λ_=>TF⟩)
 obtain⟨g,base,lo,hgw,hJ0⟩:=HG.out;have Tg:=X6 hJ0;have vO:Hid (Below w.heap.size w w3):=X6 (by rw[<-T9.out];exact nx.trans (H3.2.mono (by rw[T9.out];exact nx.size)));rw[T9.out]at*;have Yh:=SP.2.2.2.2.1;clear hJ0 HG H1 H2 H3 Cr WX T8 nx Cu T9;as_aux_lemma=>
 go_wp2_with fail;go_loopw [12] (λkv wr=>∃r:Nat,r<=R.length/\kv= .int .i64 r/\Hid (UW g base n ci lo w3.heap.size Ai (.slice Av R.length cv) R (sB c M (R.take r)) w3 wr)/\Hid (∀k∈(R.take r).flatten,0<=(sB c M (R.take r) k).width/\(sB c M (R.take r) k).width<=9223372036854775807)) (λkv _=>R.length-(intOf kv).toNat);case atStart=>exact⟨0,by omega,rfl,Tg,X6 (λk hk=>by simp at hk)⟩
 case round=>
  obtain⟨r,hr,rfl,HJ,TO⟩:=hrel;by_cases lN:r<R.length;rotate_left
  ·as_aux_lemma=>
   have g1:decide ((r:Int)<(R.length:Int))=false:=X9 (by omega);have g1':decide (r<R.length)=false:=X9 lN;have HTR:Hid (R.take r=R):=X6 (YY (by omega));obtain⟨U,hU⟩:∃U,U=sB c M R:=⟨_,rfl⟩;rw[HTR.out,<-hU]at HJ TO;have HWN:Hid (∀k,k<n->0<=(U k).width/\(U k).width<=9223372036854775807):=X6 (λk hk=>TO.out k ((SP.2.2.2.1 k).2 hk));have HUL:Hid (∀k,k<n->(U k).left=(M k).left/\(U k).right=(M k).right):=X6 (λk hk=>by have:=Gw c R M k;rw[<-hU]at this;exact⟨this.left,this.right⟩);rw[<-hU]at XW;have HTU:Hid (∀k,k<n->uW (U k)=(lU (U k).width,lU (U k).left,lU (U k).right)/\qZ (U k)=(mG (U k).width || mG (U k).left || mG (U k).right)):=X6 (λk hk=>by have h:=HWN.out k hk;unfold uW qZ;rw[numF_id (by omega)];exact⟨rfl,rfl⟩);clear hU lN Tg TO;go_wp2_with fail;obtain⟨w9,rfl⟩:∃w9,w9=wr:=⟨_,rfl⟩;clear g1 g1';go_loopw [22,23,24] (λuv bv kv wr=>∃i:Nat,i<=n/\kv= .int .i64 i/\Hid (wr.ownsRow w9.heap.size 40 3 uv i (ow (λk=>uW (U k)) i)/\wr.ownsRow w9.heap.size 4 1 bv i (oH (λk=>qZ (U k)) i)/\Below w9.heap.size w9 wr)) (λ_ _ kv _=>n-(intOf kv).toNat);case atStart=>exact⟨0,by omega,rfl,X6 ⟨⟨rfl,.inl ⟨rfl,rfl⟩⟩,⟨rfl,.inl ⟨rfl,rfl⟩⟩,ZN _ _⟩⟩
   case round=>
    obtain⟨i,hi,rfl,HV⟩:=hrel;obtain⟨Au,cu,Xl⟩:=lZ HV.1;obtain⟨Ab,cb,hvb⟩:=lZ HV.2.1;subst Xl;subst hvb;by_cases hl:i<n;rotate_left
    ·as_aux_lemma=>
     have q0:decide ((i:Int)<(n:Int))=false:=X9 (by omega);have yF:decide (i<n)=false:=X9 hl;have SM:i=n:=(by omega);have HEN:Hid (BF s c l got w wr (.returned (.tuple #[.slice Au i cu,.slice Ab i cb]))):=X6 (by
      rw[SM]at HV⊢;refine⟨⟨Au,cu,Ab,cb,by rw[<-HN.out],?_,?_⟩,?_,λA3 c3 A4 c4 he=>?_⟩
      ·rw[<-HN.out,XW.out];exact Reads.mo HV.1
      ·rw[<-HN.out,XW.out];exact Reads.mo HV.2.1
      ·exact(vO.trans (HJ.k.below (B:=w.heap.size) (λk e=>by have e2:k=g:=e;omega) vO.size)).trans (HV.2.2.mono (YL vO.size HJ.k.size))
      ·have hle:=YL vO.size HJ.k.size;have h2:=Ig he;exact⟨λad h=>YL hle (HV.1.lt ad.block (by rw[h2.1,h];rfl)).1,λad h=>YL hle (HV.2.1.lt ad.block (by rw[h2.2,h];rfl)).1⟩)
     clear SM;go_wp2_with fail;go_ret2;exact HEN.out
    as_aux_lemma=>
    have q0:decide ((i:Int)<(n:Int))=true:=YC (by omega);have yF:decide (i<n)=true:=YC hl;have wQ:(i:Int)<(n:Int):=(by omega);have Ep:(0:Int)<=(i:Int):=(by omega);have wi:IntKind.i64.wrap ((i:Int)+1)=(i:Int)+1:=YG _ ⟨by omega,by omega⟩;have Gg:0<n:=(by omega);obtain rfl:Ai=some ⟨g,0,none⟩:=HJ.ai Gg;obtain⟨t1,ht1⟩:∃t,t=(U i).width:=⟨_,rfl⟩;obtain⟨t2,ht2⟩:∃t,t=(U i).left:=⟨_,rfl⟩;obtain⟨t3,ht3⟩:∃t,t=(U i).right:=⟨_,rfl⟩;have HX:=X6 ((HJ.lR HV.2.2).it);have x50:wr.cell? (g,i*51+50)=t1:=HX.cell hl 50 (by rw[ht1];rfl);have x43:wr.cell? (g,i*51+43)=t2:=HX.cell hl 43 (by rw[ht2];rfl);have x44:wr.cell? (g,i*51+44)=t3:=HX.cell hl 44 (by rw[ht3];rfl);have Ii:Hid ((-9223372036854775808<=t1/\t1<=9223372036854775807)/\(-9223372036854775808<=t2/\t2<=9223372036854775807)/\(-9223372036854775808<=t3/\t3<=9223372036854775807)):=X6 (by have h1:=HWN.out i hl;have h2:=HUL.out i hl;have h3:=HLR.out i hl;rw[ht1,ht2,ht3,h2.1,h2.2];omega);have XR:Hid (ow (λk=>uW (U k)) (i+1)=ow (λk=>uW (U k)) i++[.int .i64 (lU t1),.int .i64 (lU t2),.int .i64 (lU t3)]/\oH (λk=>qZ (U k)) (i+1)=oH (λk=>qZ (U k)) i++[.bool (mG t1 || mG t2 || mG t3)]):=X6 (by have h:=HTU.out i hl;rw[xK,Sz,h.1,h.2,ht1,ht2,ht3];exact⟨rfl,rfl⟩);clear ht1 ht2 ht3;have OJ:Hid (∀x W,(-9223372036854775808<=x/\x<=9223372036854775807)->Calls prog 76 #[.int .i64 x] W λe w'=>e= .returned (.tuple #[(lU x),.bool (mG x)])/\W=w'):=X6 (λx W h=>qP x W);go_upto_region 41 with(go_at_call 76;refine(OJ.out _ _ Ii.1).mono ?_;rintro e w' ⟨rfl,rfl⟩)
    go_upto_region 42 with(go_at_call 76;refine(OJ.out _ _ Ii.2.1).mono ?_;rintro e w' ⟨rfl,rfl⟩);go_upto_region 43 with(go_at_call 76;refine(OJ.out _ _ Ii.2.2).mono ?_;rintro e w' ⟨rfl,rfl⟩);clear x43 x44 x50;have h9:i+1<=4294967296:=(by omega);have HGLO:Hid (w9.heap.size<=wr.heap.size):=X6 HV.2.2.size;obtain⟨z1,hz1⟩:∃z,z=lU t1:=⟨_,rfl⟩;obtain⟨z2,XZ⟩:∃z,z=lU t2:=⟨_,rfl⟩;obtain⟨z3,hz3⟩:∃z,z=lU t3:=⟨_,rfl⟩;obtain⟨b1,nY⟩:∃z,z=mG t1:=⟨_,rfl⟩;obtain⟨b2,mr⟩:∃z,z=mG t2:=⟨_,rfl⟩;obtain⟨b3,pn⟩:∃z,z=mG t3:=⟨_,rfl⟩;rw[<-hz1,<-XZ,<-hz3,<-nY,<-mr,<-pn]at XR⊢;clear hz1 XZ hz3 nY mr pn OJ Ii;go_upto_region 44 with(at_builtin;refine lM (m:=1) rfl _ _ rfl vt HV.1 HGLO.out rfl [.int .i64 z1,.int .i64 z2,.int .i64 z3] rfl rfl (by simp[Value.oneCell']) h9 (by omega) ?_;intro A1 c1 sy tj BM DW _;have qH:Hid (sy.ownsRow w9.heap.size 40 3 (.slice A1 (i+1) c1) (i+1) (ow (λk=>uW (U k)) (i+1))/\sy.ownsRow w9.heap.size 4 1 (.slice Ab i cb) i (oH (λk=>qZ (U k)) i)/\Below w9.heap.size w9 sy/\w9.heap.size<=sy.heap.size):=X6 ⟨by rw[XR.1];exact tj,HV.2.1.kept DW (uj HV.2.1 HV.1 (by decide)),BM _ _ (X7 _) HV.2.2,(BM _ _ (X7 _) HV.2.2).size⟩;clear tj BM DW);have HPK:Hid ((b1 || b2 || b3)=(if b1 then true else if b2 then true else b3)):=X6 (by cases b1<;>cases b2<;>rfl);cases b1
    ·cases b2
     ·have JR:Hid (oH (λk=>qZ (U k)) (i+1)=oH (λk=>qZ (U k)) i++[.bool b3]):=X6 XR.2;go_wp2_with (at_builtin;refine lM (m:=1) rfl _ _ rfl By qH.2.1 qH.2.2.2 rfl [.bool b3] rfl rfl (by simp[Value.oneCell']) h9 (by omega) ?_;intro A2 c2 xM tw DQ Ej _;have TA:Hid (xM.ownsRow w9.heap.size 40 3 (.slice A1 (i+1) c1) (i+1) (ow (λk=>uW (U k)) (i+1))/\xM.ownsRow w9.heap.size 4 1 (.slice A2 (i+1) c2) (i+1) (oH (λk=>qZ (U k)) (i+1))/\Below w9.heap.size w9 xM):=X6 ⟨qH.1.kept Ej (uj qH.1 qH.2.1 (by decide)),by rw[JR.out];exact tw,DQ _ _ (X7 _) qH.2.2.1⟩;clear tw DQ Ej);go_roundw;case rel=>exact⟨i+1,by omega,by go_num,TA⟩
      case measure=>simp[intOf]<;>omega
     ·have JR:Hid (oH (λk=>qZ (U k)) (i+1)=oH (λk=>qZ (U k)) i++[.bool true]):=X6 XR.2;go_wp2_with (at_builtin;refine lM (m:=1) rfl _ _ rfl By qH.2.1 qH.2.2.2 rfl [.bool true] rfl rfl (by simp[Value.oneCell']) h9 (by omega) ?_;intro A2 c2 xM tw DQ Ej _;have TA:Hid (xM.ownsRow w9.heap.size 40 3 (.slice A1 (i+1) c1) (i+1) (ow (λk=>uW (U k)) (i+1))/\xM.ownsRow w9.heap.size 4 1 (.slice A2 (i+1) c2) (i+1) (oH (λk=>qZ (U k)) (i+1))/\Below w9.heap.size w9 xM):=X6 ⟨qH.1.kept Ej (uj qH.1 qH.2.1 (by decide)),by rw[JR.out];exact tw,DQ _ _ (X7 _) qH.2.2.1⟩;clear tw DQ Ej);go_roundw;case rel=>exact⟨i+1,by omega,by go_num,TA⟩
      case measure=>simp[intOf]<;>omega
    ·have JR:Hid (oH (λk=>qZ (U k)) (i+1)=oH (λk=>qZ (U k)) i++[.bool true]):=X6 (by rw[XR.2];cases b2<;>rfl);go_wp2_with (at_builtin;refine lM (m:=1) rfl _ _ rfl By qH.2.1 qH.2.2.2 rfl [.bool true] rfl rfl (by simp[Value.oneCell']) h9 (by omega) ?_;intro A2 c2 xM tw DQ Ej _;have TA:Hid (xM.ownsRow w9.heap.size 40 3 (.slice A1 (i+1) c1) (i+1) (ow (λk=>uW (U k)) (i+1))/\xM.ownsRow w9.heap.size 4 1 (.slice A2 (i+1) c2) (i+1) (oH (λk=>qZ (U k)) (i+1))/\Below w9.heap.size w9 xM):=X6 ⟨qH.1.kept Ej (uj qH.1 qH.2.1 (by decide)),by rw[JR.out];exact tw,DQ _ _ (X7 _) qH.2.2.1⟩;clear tw DQ Ej);go_roundw;case rel=>exact⟨i+1,by omega,by go_num,TA⟩
     case measure=>simp[intOf]<;>omega
  have g1:decide ((r:Int)<(R.length:Int))=true:=YC (by omega);have g1':decide (r<R.length)=true:=YC lN;have Fe:(r:Int)<(R.length:Int):=by omega
  have zD:(0:Int)<=(r:Int):=by omega
  have wk:IntKind.i64.wrap ((r:Int)+1)=(r:Int)+1:=YG _ ⟨by omega,by omega⟩;have Gg:0<n:=by omega
  obtain⟨ks,qA⟩:∃ks,ks=R[r]:=⟨_,rfl⟩;have E8:Hid (∀k∈ks,k<n):=X6 (λk hk=>(SP.2.2.2.1 k).1 (List.mem_flatten.2 ⟨R[r],YJ lN,by rw[<-qA];exact hk⟩));have Ct:Hid (ks.Nodup/\ks.length<=n):=X6 ⟨by rw[qA];exact Qe SP.2.2.1 lN,by rw[qA,<-SP.2.2.2.2.2];exact row_len lN⟩;obtain⟨Mr,hMr⟩:∃Mr,Mr=sB c M (R.take r):=⟨_,rfl⟩;have SV:Hid (∀k∈ks,Mr k=M k):=X6 (λk hk=>by rw[hMr];exact Qb c R M SP.2.2.1 lN (by rw[<-qA];exact hk));have HSU:Hid (sB c M (R.take (r+1))=zY c Mr ks):=X6 (by rw[QR c R M lN,hMr,qA]);have RB:Hid (∀k,k∈(R.take (r+1)).flatten↔k∈(R.take r).flatten\/k∈ks):=X6 (λk=>by rw[YU lN,aA8,YW,qA];simp);have HDJ:Hid (∀k∈(R.take r).flatten,k∉ks):=X6 (λk hk Ff=>by have e:R=R.take r++R[r]::R.drop (r+1):=(by rw[<-ZH lN,ZL]);have hd:=SP.2.2.1;rw[e,aA8,aAG]at hd;exact(aBO.1 hd).2.2 k hk k (aA4 _ (by rw[<-qA];exact Ff)) rfl);rw[<-hMr]at HJ TO;have Ql:Hid (∀k∈ks,I8 (Mr k)/\(Mr k).c=c):=X6 (λk hk=>by rw[SV.out k hk];exact⟨HFB.out k (E8.out k hk),(JZ.out k).1⟩);obtain⟨mm,hmm⟩:∃mm,mm=ks.length:=⟨_,rfl⟩;have hml:mm<=n:=by rw[hmm];exact Ct.2
  have KR:=X6 hmm;have xV:Hid (rowAt R r=ks):=X6 (by rw[WC lN,qA]);obtain rfl:Ai=some ⟨g,0,none⟩:=HJ.ai Gg;clear hMr hmm qA Tg;obtain⟨gr,hgr⟩:∃gr,gr=BH c Mr ks:=⟨_,rfl⟩;have HGR:=X6 hgr;clear hgr;as_aux_lemma=>
  have hI0:wr.ownsRow wr.heap.size 255 1 (.slice none 0 0) 0 (Yq g (ks.take 0)):=⟨by rw[ZB];rfl,.inl ⟨rfl,rfl⟩⟩;have vp:=X6 hI0;clear hI0;go_wp2_with fail;obtain⟨wb,rfl⟩:∃wb,wb=wr:=⟨_,rfl⟩;go_loopw [13,14,15] (λv sv kv wr=>∃i:Nat,i<=mm/\kv= .int .i64 i/\sv= .int .i64 (((ks.take i).map (pY Mr)).sum)/\Hid (wr.ownsRow wb.heap.size 255 1 v i (Yq g (ks.take i))/\Below wb.heap.size wb wr)) (λ_ _ kv _=>mm-(intOf kv).toNat);case atStart=>exact⟨0,by omega,rfl,rfl,X6 ⟨vp.out,ZN _ _⟩⟩
  case round=>
   obtain⟨i,hi,rfl,rfl,HV⟩:=hrel;obtain⟨Ap,cp,hvv⟩:=lZ HV.1;subst hvv;have SL:Hid (-50000000000000000<=((ks.take i).map (pY Mr)).sum/\((ks.take i).map (pY Mr)).sum<=50000000000000000):=X6 (by have:=tI (pY Mr) ks 41000000000000 (λk hk=>by have h:=(Ql.out k hk).1;have h1:=h.mY;have h2:=h.guess;unfold pY;omega) (by omega) (by rw[<-KR.out];omega) i;omega);have Lo:=SL.out;obtain⟨SO,hSO⟩:∃SO,SO=((ks.take i).map (pY Mr)).sum:=⟨_,rfl⟩;rw[<-hSO]at Lo⊢;have HJW:Hid (UW g base n ci lo w3.heap.size (some ⟨g,0,none⟩) (.slice Av R.length cv) R Mr w3 wr):=X6 (HJ.lR HV.2);obtain⟨gp,Ar,cr,rfl,f1,rd⟩:=Sh HJW.rws lN;rw[xV.out,<-KR.out]at f1 rd;by_cases FW:i<mm
   ·as_aux_lemma=>
    have q0:decide ((i:Int)<(mm:Int))=true:=YC (by omega);have yF:decide (i<mm)=true:=YC FW;have wQ:(i:Int)<(mm:Int):=(by omega);have Ep:(0:Int)<=(i:Int):=(by omega);have wi:IntKind.i64.wrap ((i:Int)+1)=(i:Int)+1:=YG _ ⟨by omega,by omega⟩;have nF:i<ks.length:=(by rw[<-KR.out];exact FW);obtain⟨k,hk⟩:∃k,k=ks[i]:=⟨_,rfl⟩;have xD:k∈ks:=(by rw[hk];exact YJ nF);have pz:=E8.out k xD;have hkn2:(k:Int)<(n:Int):=(by omega);have hkn3:(0:Int)<=(k:Int):=(by omega);obtain⟨a1,u1,rfl,ha1,Am,XH⟩:=rd.at_ FW;have e1:u1= .int .i64 (k:Int):=(by rw[hk];simpa[nM,nF]using Am.symm);subst e1;have OC:Hid (((ks.take (i+1)).map (pY Mr)).sum=SO+pY Mr k):=X6 (by rw[pG _ _ _ nF,hSO,hk]);have QS:Hid (ks.take (i+1)=ks.take i++[k]):=X6 (by rw[YU nF,hk]);clear Am hk hSO;have WR:=(Ql.out k xD).1;obtain⟨sd,hsd⟩:∃sd,sd=(Mr k).mY:=⟨_,rfl⟩;obtain⟨ge,qU⟩:∃ge,ge=(Mr k).guess:=⟨_,rfl⟩;have hs1:=WR.mY;have Me:=WR.guess;rw[<-hsd]at hs1;rw[<-qU]at Me;have KB:Hid (pY Mr k=ge+sd):=X6 (by rw[hsd,qU];unfold pY;omega);have HXC:Hid (∀W,Below wb.heap.size wb W->W.cell? (g,k*51+45)=sd/\W.cell? (g,k*51+47)=ge):=X6 (λW hb=>by have h:=(HJ.lR hb).it;exact⟨h.cell pz 45 (by rw[hsd];rfl),h.cell pz 47 (by rw[qU];rfl)⟩);clear WR hsd qU;have w6:IntKind.i64.wrap (SO+ge)=SO+ge:=YG _ ⟨by omega,by omega⟩;have w7:IntKind.i64.wrap (SO+ge+sd)=SO+ge+sd:=YG _ ⟨by omega,by omega⟩;have h9:i+1<=4294967296:=(by omega);have HGLO:Hid (wb.heap.size<=wr.heap.size):=X6 HV.2.size;go_upto_region 12 with(fail)
    clear f1 XH rd;go_upto_region 13 with(at_builtin;refine lM (m:=1) rfl _ _ rfl el_rip HV.1 HGLO.out rfl [.pointer (some ⟨g,k*51,none⟩)] rfl rfl (by simp[Value.oneCell']) h9 (by omega) ?_;intro A1 c1 sy tj BM DW _;have qH:Hid (sy.ownsRow wb.heap.size 255 1 (.slice A1 (i+1) c1) (i+1) (Yq g (ks.take (i+1)))/\Below wb.heap.size wb sy):=X6 ⟨by rw[QS.out,rpC_app];exact tj,BM _ _ (X7 _) HV.2⟩;clear tj BM DW)
    have x45:=(HXC.out _ qH.2).1;have x47:=(HXC.out _ qH.2).2;go_quiet (fail);go_wp2_with fail;go_roundw;case rel=>exact⟨i+1,by omega,by go_num,by rw[OC.out,KB.out];congr 1;omega,X6 ⟨xu qH.1 (Kp.drewN (Kp.refl (λ_=>False) _) _) (λ_ _ h=>h),oV qH.2 _⟩⟩
    case measure=>simp[intOf]<;>omega
   ·as_aux_lemma=>
    have q0:decide ((i:Int)<(mm:Int))=false:=X9 (by omega);have yF:decide (i<mm)=false:=X9 FW;have GM:i=mm:=(by omega);have NC:Hid (decide (SO<c)=gr):=X6 (by rw[HGR.out,NI,hSO,GM,KR.out,ZZ]);have Lm:Hid (∀W,Kp (λb=>b=g) wr W->W.ownsRow wb.heap.size 255 1 (.slice Ap mm cp) mm (Yq g ks)):=X6 (λW hk=>by have h:=HV.1;rw[GM]at h;rw[KR.out,ZZ]at h;rw[KR.out];exact xu h hk λg' e e2=>by have h1:=(h.lt g' e).1;have h2:=HJ.gl;have h3:=HJ.it.lt.2;have e2':g'=g:=e2;omega);have yX:Hid (∀W,Kp (λb=>b=g) wr W->∀i (h:i<ks.length),∃p:Addr,Ap=some p/\W.cell? (p.add i)=some (.pointer (some ⟨g,ks[i]*51,none⟩))):=X6 (λW hk i h=>by obtain⟨p,u,e,lN,hx,hc⟩:=(Reads.mo (Lm.out W hk)).at_ (show i<mm by rw[KR.out];exact h);refine⟨p,e,?_⟩;have hu:u= .pointer (some ⟨g,ks[i]*51,none⟩):=(by simpa[Yq,h]using hx.symm);rw[<-hu,<-hc]);have HPG:Hid (∀p,Ap=some p->p.block≠g):=X6 (λp e e2=>by have h1:=((Lm.out wr (Kp.refl _ _)).lt p.block (by rw[e];rfl)).1;have h3:=HJ.it.lt.2;omega);rw[GM];clear hSO GM Lo SL;have HK0:Hid (vR g base n ci (stM Mr (uB gr Mr ks) ks 0) wr wr):=X6 ⟨HJW.it.same λk _=>by unfold stM;rw[ZB,YO (by simp)],Kp.refl _ _⟩;obtain⟨S,hS⟩:∃S,S=uB gr Mr ks:=⟨_,rfl⟩;rw[<-hS]at HK0;have HS:Hid ((∀k∈ks,S k=qJ gr (Mr k))/\(∀k,k∉ks->S k=Mr k)):=X6 ⟨λk hk=>by rw[hS];exact YP hk,λk hk=>by rw[hS];exact YO hk⟩;have HSS:=X6 hS;clear hS;go_upto_region 15 with(fail)
    rw[NC.out];clear q0 yF FW hi;go_wp2_with fail;obtain⟨wv,rfl⟩:∃wv,wv=wr:=⟨_,rfl⟩;go_loopw [18,19] (λlv kv wr=>∃i:Nat,i<=mm/\kv= .int .i64 i/\lv= .int .i64 ((lX S (ks.take i)).length:Nat)/\Hid (vR g base n ci (stM Mr S ks i) wv wr)) (λ_ kv _=>mm-(intOf kv).toNat);case atStart=>exact⟨0,by omega,rfl,rfl,HK0⟩
    case round=>
     obtain⟨i,hi,rfl,rfl,HK⟩:=hrel;have oR:(lX S (ks.take i)).length<=1000:=(by have h1:(lX S (ks.take i)).length<=(ks.take i).length:=Z9 _ _;have h2:=ZW (i:=i) (l:=ks);have:=KR.out;omega);obtain⟨cn,Pt⟩:∃cn,cn=(lX S (ks.take i)).length:=⟨_,rfl⟩;rw[<-Pt]at oR⊢;by_cases Tb:i<mm
     ·as_aux_lemma=>
      have q0:decide ((i:Int)<(mm:Int))=true:=YC (by omega);have yF:decide (i<mm)=true:=YC Tb;have wQ:(i:Int)<(mm:Int):=(by omega);have Ep:(0:Int)<=(i:Int):=(by omega);have wi:IntKind.i64.wrap ((i:Int)+1)=(i:Int)+1:=YG _ ⟨by omega,by omega⟩;have wc:IntKind.i64.wrap ((cn:Int)+1)=(cn:Int)+1:=YG _ ⟨by omega,by omega⟩;have nF:i<ks.length:=(by rw[<-KR.out];exact Tb);obtain⟨k,hk⟩:∃k,k=ks[i]:=⟨_,rfl⟩;have xD:k∈ks:=(by rw[hk];exact YJ nF);have pz:=E8.out k xD;obtain⟨p,hA,c1⟩:=yX.out wr HK.k i nF;rw[<-hk]at c1;subst hA;obtain⟨x,hx⟩:∃x,x=Mr k:=⟨_,rfl⟩;have rT:Hid (stM Mr S ks i k=x/\stM Mr S ks (i+1) k=qJ gr x/\∀j,j≠k->stM Mr S ks (i+1) j=stM Mr S ks i j):=X6 (by rw[hx,<-HS.1 k xD,hk];exact⟨OV Ct.1 nF,OH nF,λj hj=>GO nF hj⟩);have WR:=(Ql.out k xD).1;rw[<-hx]at WR;have CO:Hid ((lX S (ks.take (i+1))).length=cn+(if Az gr x then 0 else 1)):=X6 (by
       rw[zh S ks i nF,<-Pt,<-hk,HS.1 k xD,<-hx];unfold qJ;have hh:=WR.held;cases Fg:Az gr x
       ·simp[hh]
       ·simp)
      have HPB:=X6 (Pu (grows:=false) WR);obtain⟨pr,GZ⟩:∃pr,pr=x.s.shrink*x.base:=⟨_,rfl⟩;have HFA:Hid (Cm gr x=if gr then x.s.grow else pr):=X6 (by rw[GZ];rfl);have S8: -1000000000000000<=pr/\pr<=1000000000000000:=(by rw[GZ];exact HPB.out);have w8:IntKind.i64.wrap (x.s.shrink*x.base)=pr:=(by rw[<-GZ];exact YG _ ⟨by omega,by omega⟩);obtain⟨N,hN⟩:∃N,N=stM Mr S ks i:=⟨_,rfl⟩;have HKX:Hid (vR g base n ci (C8 k x N) wv wr):=X6 (HK.same λq _=>by
       rw[hN];by_cases e:q=k
       ·subst e;rw[Ea,rT.1]
       ·rw[IX _ _ e])
      have HNX:Hid (∀W y,rr y=rr (qJ gr x)->vR g base n ci (C8 k y N) wv W->vR g base n ci (stM Mr S ks (i+1)) wv W):=X6 (λW y hy h=>h.same λq _=>by
       by_cases e:q=k
       ·subst e;rw[Ea,rT.2.1,hy]
       ·rw[IX _ _ e,hN,rT.2.2 q e])
      clear hk hx Pt HPB GZ hN HK WR;go_upto_region 20 with(fail)
      clear c1;have E0:=HKX.lR (ZN _ _).drew;refine mw (λb _ _ W=>if b then vR g base n ci (C8 k {x with factor:=pr} N) wv W else vR g base n ci (C8 k x N) wv W) 13 1000 100000 false true (by kernel_rfl) (by kernel_rfl) (by kernel_rfl) (E0) ?_;refine xN 0 ?_;iterate 13
       refine Ay (v:=?_) ?_ ?_;rotate_left
       ·intro d' u' W' lr;have z39:W'.cell? (g,k*51+39)=x.s.shrink:=(show vR g base n ci (C8 k x N) wv W' from lr).cell pz 39 rfl;have z46:W'.cell? (g,k*51+46)=x.base:=(show vR g base n ci (C8 k x N) wv W' from lr).cell pz 46 rfl;have z48:W'.cell? (g,k*51+48)=x.factor:=(show vR g base n ci (C8 k x N) wv W' from lr).cell pz 48 rfl;have z48f:=(show vR g base n ci (C8 k x N) wv W' from lr).it.frozen (k*51+48);go_simp;rfl
       try simp only[Act.put,X8,YF,YE,YD,YA,YB]
      refine mE (i:=13) (d:=true) (λW'=>W'.setCell ⟨g,k*51+48,none⟩ (.int .i64 pr)) rfl (by kernel_rfl) (by rfl) (by rfl) (by kernel_rfl) rfl ?_ (λW' lr=>(show vR g base n ci (C8 k x N) wv W' from lr).put pz 48 _ (by omega) rfl) ?_
      ·intro W' lr;have z39:W'.cell? (g,k*51+39)=x.s.shrink:=(show vR g base n ci (C8 k x N) wv W' from lr).cell pz 39 rfl;have z46:W'.cell? (g,k*51+46)=x.base:=(show vR g base n ci (C8 k x N) wv W' from lr).cell pz 46 rfl;have z48:W'.cell? (g,k*51+48)=x.factor:=(show vR g base n ci (C8 k x N) wv W' from lr).cell pz 48 rfl;have z48f:=(show vR g base n ci (C8 k x N) wv W' from lr).it.frozen (k*51+48);go_simp;try rfl
      try simp only[Act.put,X8,YF,YE,YD,YA,YB]
      refine F6 (λwS hS=>?_);have HY:=X6 hS;clear hS E0 w8;go_upto_if 105 with(fail)
      obtain⟨fa,hfa⟩:∃fa,fa=Cm gr x:=⟨_,rfl⟩;rw[<-hfa]at HFA;have HFQ:=X6 hfa;clear hfa;go_cut [20] (λsx wx=>sx= .pointer (some ⟨g,k*51,none⟩)/\Hid (vR g base n ci (C8 k {x with factor:=fa} N) wv wx));case first=>as_aux_lemma=>
       cases gr
       ·have HF0:Hid (fa=pr):=X6 HFA.out;go_wp2_with fail;go_meet;exact⟨rfl,by rw[HF0.out];exact HY⟩
       ·have HF0:Hid (fa=x.s.grow):=X6 HFA.out;have x38:wS.cell? (g,k*51+38)=x.s.grow:=HY.cell pz 38 rfl;have x48:wS.cell? (g,k*51+48)=pr:=HY.cell pz 48 rfl;have x48f:=HY.it.frozen (k*51+48);have HZ:Hid (vR g base n ci (C8 k {x with factor:=fa} N) wv (wS.setCell (g,k*51+48) x.s.grow)):=X6 (HY.put pz 48 _ (by omega) (by rw[HF0.out];rfl));go_wp2_with fail;go_meet;exact⟨rfl,HZ⟩
      case rest=>
      obtain⟨rfl,HZ⟩:=hcut;as_aux_lemma=>
      clear HY;obtain⟨wz,rfl⟩:∃wz,wz=wc:=⟨_,rfl⟩;obtain⟨st,Fg⟩:∃st,st=Az gr x:=⟨_,rfl⟩;have HTE:Hid (st=(decide (fa=0) || (gr && decide (x.guess<x.base)) || (!gr && decide (x.base<x.guess)))):=X6 (by rw[Fg,HFQ.out];rfl);have HTQ:=X6 Fg;rw[<-Fg]at CO;clear Fg;go_upto_region 23 with(fail)
      go_cut [147] (λsx wx=>sx= .bool st/\Hid (vR g base n ci (C8 k {x with factor:=fa} N) wv wx));case first=>as_aux_lemma=>
       have x46:wz.cell? (g,k*51+46)=x.base:=HZ.cell pz 46 rfl;have x47:wz.cell? (g,k*51+47)=x.guess:=HZ.cell pz 47 rfl;have x48:wz.cell? (g,k*51+48)=fa:=HZ.cell pz 48 rfl;have ht:=HTE.out;clear HFA HFQ HTQ HTE;by_cases e0:fa=0
       ·have d0:(fa == 0)=true:=ZR.2 e0;have HT:Hid (st=true):=X6 (by rw[ht,YC e0];rfl);clear ht e0;go_quiet (fail);go_wp2_with fail;go_meet;exact⟨by rw[HT.out],X6 (HZ.drewN _)⟩
       ·have d0:(fa == 0)=false:=ZO.2 e0;rw[X9 e0]at ht;clear e0;cases gr
        ·cases d1:decide (x.base<x.guess)
         ·have HT:Hid (st=false):=X6 (by rw[ht,d1];rfl);clear ht;go_quiet (fail);go_wp2_with fail;go_meet;exact⟨by rw[HT.out],X6 (HZ.drewN _)⟩
         ·have HT:Hid (st=true):=X6 (by rw[ht,d1];rfl);clear ht;go_quiet (fail);go_wp2_with fail;go_meet;exact⟨by rw[HT.out],X6 (HZ.drewN _)⟩
        ·cases d1:decide (x.guess<x.base)
         ·have HT:Hid (st=false):=X6 (by rw[ht,d1];rfl);clear ht;go_quiet (fail);go_wp2_with fail;go_meet;exact⟨by rw[HT.out],X6 (HZ.drewN _)⟩
         ·have HT:Hid (st=true):=X6 (by rw[ht,d1];rfl);clear ht;go_quiet (fail);go_wp2_with fail;go_meet;exact⟨by rw[HT.out],X6 (HZ.drewN _)⟩
      case rest=>
      obtain⟨rfl,HU⟩:=hcut;as_aux_lemma=>
      obtain⟨wu,rfl⟩:∃wu,wu=wc:=⟨_,rfl⟩;cases st
      ·have HE:Hid (rr {x with factor:=fa}=rr (qJ gr x)):=X6 (by unfold qJ;rw[<-HTQ.out,<-HFQ.out];rfl);go_wp2_with fail;go_roundw;case rel=>exact⟨i+1,by omega,by go_num,by rw[CO.out];go_num,X6 (HNX.out _ _ HE.out HU.out)⟩
       case measure=>simp[intOf]<;>omega
      ·have HE:Hid (rr {x with factor:=fa,held:=true,width:=x.guess}=rr (qJ gr x)):=X6 (by unfold qJ;rw[<-HTQ.out,<-HFQ.out];rfl);have Ta:wu.cell? (g,k*51+49)=x.held:=HU.cell pz 49 rfl;have x49f:=HU.it.frozen (k*51+49);have HU2:Hid (vR g base n ci (C8 k {x with factor:=fa,held:=true} N) wv (wu.setCell (g,k*51+49) (.bool true))):=X6 (HU.put pz 49 _ (by omega) rfl);go_upto_region 25 with(fail)
       obtain⟨w2,ph⟩:∃w2,w2=wu.setCell (g,k*51+49) (.bool true):=⟨_,rfl⟩;rw[<-ph]at HU2⊢;clear ph Ta x49f;have x47:w2.cell? (g,k*51+47)=x.guess:=HU2.cell pz 47 rfl;have x50:w2.cell? (g,k*51+50)=x.width:=HU2.cell pz 50 rfl;have x50f:=HU2.it.frozen (k*51+50);have HU3:Hid (vR g base n ci (C8 k {x with factor:=fa,held:=true,width:=x.guess} N) wv (w2.setCell (g,k*51+50) x.guess)):=X6 (HU2.put pz 50 _ (by omega) rfl);go_wp2_with fail;go_roundw;case rel=>exact⟨i+1,by omega,by go_num,by rw[CO.out];rfl,X6 (HNX.out _ _ HE.out HU3.out)⟩
       case measure=>simp[intOf]<;>omega
     ·as_aux_lemma=>
      have q0:decide ((i:Int)<(mm:Int))=false:=X9 (by omega);have yF:decide (i<mm)=false:=X9 Tb;have GM:i=mm:=(by omega);have hce:cn=(lX S ks).length:=(by rw[Pt,GM,KR.out,ZZ]);have CC:Hid (vR g base n ci S wv wr):=X6 (HK.same λk _=>by
       unfold stM;rw[GM,KR.out,ZZ];by_cases hk:k∈ks
       ·rw[YP hk]
       ·rw[YO hk,HS.2 k hk])
      have R5:Hid (OL gr Mr S ks):=X6 (by rw[HSS.out];exact OL.start λk hk=>(Ql.out k hk).1);have HF0:Hid (zY c Mr ks=pR ks.length (qq c Mr ks) gr S ks):=X6 (by unfold zY;rw[<-HGR.out,<-HSS.out]);have HO0:Hid (∀k,k∉ks->S k=Mr k):=X6 HS.2;rw[hce];clear Pt GM hce HK HS HSS oR;go_wp2_with fail;obtain⟨wq,rfl⟩:∃wq,wq=wr:=⟨_,rfl⟩;clear q0 yF Tb hi;go_loopw [18] (λlv wr=>∃S2,lv= .int .i64 ((lX S2 ks).length:Nat)/\Hid (vR g base n ci S2 wv wr)/\Hid (OL gr Mr S2 ks)/\Hid (zY c Mr ks=pR ks.length (qq c Mr ks) gr S2 ks)) (λlv _=>(intOf lv).toNat);case atStart=>exact⟨S,rfl,CC,R5,HF0⟩
      case round=>
       obtain⟨S2,rfl,HK,Dc,HFM⟩:=hrel;clear CC R5 HF0;have oR:(lX S2 ks).length<=1000:=(by have h1:(lX S2 ks).length<=ks.length:=Z9 _ _;have:=KR.out;omega);have HEQ0:Hid ((lX S2 ks).length=0↔lX S2 ks=[]):=X6 aAO;have Zt:Hid (lX S2 ks≠[]->(lX (nI (qq c S2 ks) gr S2 ks) ks).length<(lX S2 ks).length):=X6 (λh=>yA _ _ _ _ h);obtain⟨cn,Pt⟩:∃cn,cn=(lX S2 ks).length:=⟨_,rfl⟩;rw[<-Pt]at oR HEQ0 Zt⊢;clear Pt;by_cases hz:cn=0
       ·as_aux_lemma=>
        have d0:decide ((0:Int)<(cn:Int))=false:=X9 (by omega);have pJ:decide (0<cn)=false:=X9 (by omega);have HEM:Hid (lX S2 ks=[]):=X6 (HEQ0.1 hz);clear hz;go_wp2_with fail;go_roundw;case rel=>
         have e:zY c Mr ks=S2:=(by rw[HFM.out,QA _ _ _ _ _ HEM.out]);refine⟨r+1,by omega,by go_num,X6 ?_,X6 λk hk=>?_⟩
         ·rw[HSU.out,e];exact HJW.turn HK.it HK.k
         ·rw[HSU.out];rcases(RB.out k).1 hk with h | h
          ·rw[Pn c Mr ks k (HDJ.out k h)];exact TO.out k h
          ·rw[e];exact aaC (by rw[<-HGR.out];exact Dc.out) HEM.out k h
        case measure=>simp[intOf]<;>omega
       ·as_aux_lemma=>
        have d0:decide ((0:Int)<(cn:Int))=true:=YC (by omega);have pJ:decide (0<cn)=true:=YC (by omega);have r9:Hid (lX S2 ks≠[]):=X6 (λh=>hz (HEQ0.2 h));obtain⟨S3,hS3⟩:∃S3,S3=nI (qq c S2 ks) gr S2 ks:=⟨_,rfl⟩;have hls:(lX S3 ks).length<cn:=(by rw[hS3];exact Zt.out r9.out);have vY:Hid (Calls prog 169 #[.slice Ap mm cp,c,gr] wr λe w'=>e= .returned (.tuple #[])/\yQ g base n ci S3 w'/\Kp (λb=>b=g) wr w'):=X6 (by rw[KR.out,hS3];have Zx:=Reads.mo (Lm.out wr HK.k);rw[KR.out]at Zx;exact NF g base n ci c gr S2 ks Ap cp wr (Uv (λk hk=>(Ql.out k hk).1) (λk hk=>(Ql.out k hk).2) JT.out Dc.out r9.out Ct.1 (by have:=Ct.2;omega)) E8.out HK.it Zx HPG.out);have TC:Hid (OL gr Mr S3 ks/\zY c Mr ks=pR ks.length (qq c Mr ks) gr S3 ks):=X6 (by have h1:=Ww (λk hk=>(Ql.out k hk).1) (λk hk=>(Ql.out k hk).2) JT.out Dc.out r9.out Ct.1 (by have:=Ct.2;omega);refine⟨by rw[hS3];exact h1,?_⟩;rw[HFM.out,Qu _ _ _ _ _ (Z9 _ _) r9.out,hS3,Rn Dc.out]);clear hS3 hz Zt HEQ0;go_upto_region 29 with(go_at_call 169;refine vY.mono ?_;rintro e w8 ⟨rfl,hit,hkp⟩;have H8:Hid (vR g base n ci S3 wv w8):=X6 ⟨hit,HK.k.trans hkp⟩;clear hit hkp)
        clear vY;go_wp2_with fail;clear d0 pJ;obtain⟨wt,rfl⟩:∃wt,wt=wr:=⟨_,rfl⟩;go_loopw [18,21] (λlv kv wr=>∃i:Nat,i<=mm/\kv= .int .i64 i/\lv= .int .i64 ((lX S3 (ks.take i)).length:Nat)/\Hid (w8=wr)) (λ_ kv _=>mm-(intOf kv).toNat);case atStart=>exact⟨0,by omega,rfl,rfl,X6 rfl⟩
        case round=>
         obtain⟨i,hi,rfl,rfl,HW⟩:=hrel;obtain rfl:=HW.out;clear HW;have hcl2:(lX S3 (ks.take i)).length<=1000:=(by have h1:(lX S3 (ks.take i)).length<=(ks.take i).length:=Z9 _ _;have h2:=ZW (i:=i) (l:=ks);have:=KR.out;omega);obtain⟨c2,Xx⟩:∃c2,c2=(lX S3 (ks.take i)).length:=⟨_,rfl⟩;rw[<-Xx]at hcl2⊢;by_cases XE:i<mm
         ·have q0:decide ((i:Int)<(mm:Int))=true:=YC (by omega);have yF:decide (i<mm)=true:=YC XE;have wQ:(i:Int)<(mm:Int):=(by omega);have Ep:(0:Int)<=(i:Int):=(by omega);have wi:IntKind.i64.wrap ((i:Int)+1)=(i:Int)+1:=YG _ ⟨by omega,by omega⟩;have wc:IntKind.i64.wrap ((c2:Int)+1)=(c2:Int)+1:=YG _ ⟨by omega,by omega⟩;have nF:i<ks.length:=(by rw[<-KR.out];exact XE);obtain⟨k,hk⟩:∃k,k=ks[i]:=⟨_,rfl⟩;have xD:k∈ks:=(by rw[hk];exact YJ nF);have pz:=E8.out k xD;obtain⟨p,hA,c1⟩:=yX.out w8 H8.k i nF;rw[<-hk]at c1;subst hA;obtain⟨hd,yW⟩:∃hd,hd=(S3 k).held:=⟨_,rfl⟩;have Ta:w8.cell? (g,k*51+49)=hd:=H8.it.cell pz 49 (by rw[yW];rfl);have CO:Hid ((lX S3 (ks.take (i+1))).length=c2+(if hd then 0 else 1)):=X6 (by rw[zh S3 ks i nF,<-Xx,<-hk,<-yW]);clear hk yW Xx;cases hd
          ·go_wp2_with fail;go_roundw;case rel=>exact⟨i+1,by omega,by go_num,by rw[CO.out];go_num,by first | exact X6 rfl | exact X6 trivial⟩
           case measure=>simp[intOf]<;>omega
          ·go_wp2_with fail;go_roundw;case rel=>exact⟨i+1,by omega,by go_num,by rw[CO.out];rfl,by first | exact X6 rfl | exact X6 trivial⟩
           case measure=>simp[intOf]<;>omega
         ·have q0:decide ((i:Int)<(mm:Int))=false:=X9 (by omega);have yF:decide (i<mm)=false:=X9 XE;have hce:c2=(lX S3 ks).length:=(by rw[Xx,show i=mm by omega,KR.out,ZZ]);have hc3:c2<cn:=(by omega);clear Xx XE;go_wp2_with fail;go_roundw;case rel=>exact⟨S3,by rw[hce],H8,X6 TC.1,X6 TC.2⟩
          case measure=>simp[intOf]<;>omega
end
end Go.Proofs.YtjhingednpjogaaGreat
