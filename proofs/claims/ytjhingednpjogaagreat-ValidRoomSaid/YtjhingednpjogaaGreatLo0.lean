/- Lemmas for ValidRoom; laid together by a program. -/
import Derived.Test.YtjhingednpjogaaGreatTrp
import Derived.OpenShut
import Derived.Carry
set_option linter.all false
set_option maxRecDepth 100000
set_option maxHeartbeats 1000000
namespace Go.Proofs.YtjhingednpjogaaGreat
open Go.Proofs.Tryz
section
open Go.RowKit
attribute [local go_sem] lp
section
variable(l:List Nd)(A A2:Option Addr)(c m c2:Nat)(view:Int)(w:World)
theorem sZ(i:Nat)(hi:i<l.length)(hn:l.length<=4294967296)(hr:Reads w w.heap.size 44 A l.length (lI l)): Calls prog 49 #[.agg #[.slice A l.length c,.slice A2 m c2,view],.int .i64 i] w λe w'=>e= .returned (.int .i64 (nB l i))/\w.alloc (.cells #[.slice A l.length c,.slice A2 m c2,view] 25)=w':=by
 obtain⟨ad,rfl,pN⟩:=hr.nd rfl hi;obtain⟨lN,hp,_⟩:=pN;rw[lp]at lN;obtain⟨x,hx⟩:∃x,x=l[i].parent:=⟨_,rfl⟩;rw[<-hx]at hp;have wQ:(i:Int)<(l.length:Int):=by omega
 have HP:Hid (nB l i=if 0<=x/\x<i then x else -1):=X6 (by unfold nB;rw[YH hi,hx]);clear hx hr;by_cases h0:0<=x
 ·have d0:decide (0<=x)=true:=YC h0;by_cases h1:x<(i:Int)
  ·have d1:decide (x<(i:Int))=true:=YC h1;go_enter func49,ntmps49;go_wp2;go_ret;rw[HP.out,YP ⟨h0,h1⟩];exact⟨rfl,rfl⟩
  ·have d1:decide (x<(i:Int))=false:=X9 h1;go_enter func49,ntmps49;go_wp2;go_ret;rw[HP.out,YO (by omega)];exact⟨rfl,rfl⟩
 ·have d0:decide (0<=x)=false:=X9 h0;go_enter func49,ntmps49;go_wp2;go_ret;rw[HP.out,YO (by omega)];exact⟨rfl,rfl⟩
theorem P5(i:Nat)(over:Int)(hi:i<l.length)(hn:l.length<=4294967296)(hr:Reads w w.heap.size 44 A l.length (lI l)): Calls prog 67 #[.agg #[.slice A l.length c,.slice A2 m c2,view],.int .i64 i,.int .i64 over] w λe w'=>e= .returned (.bool (decide (over∈EZ l i)))/\Below w.heap.size w w':=by
 have HR:=X6 hr;have vS:Hid (lq (w.alloc (.cells #[.slice A l.length c,.slice A2 m c2,view] 25)) w.heap.size 25 #[.slice A l.length c,.slice A2 m c2,view]):=X6 (lq.new _ _ _);have HP:=X6 (λW (i:Nat) (hi:i<l.length) (hb:Below w.heap.size w W)=>sZ l A A2 c m c2 view W i hi hn ((hr.below hb).more hb.size));clear hr;go_enter func67,ntmps67;go_wp2_with fail;refine(HP.out _ i hi bA).mono ?_;rintro e w1 ⟨rfl,rfl⟩;go_wp2_with fail;go_loopw [7] (λpv wr=>∃(p:Int) (k:Nat),k<l.length/\pv= .int .i64 p/\Hid (p=nB l k/\(decide (over∈EZ l i)=decide (over∈EZ l k))/\Below w.heap.size w wr/\lq wr w.heap.size 25 #[.slice A l.length c,.slice A2 m c2,view])) (λpv _=>(intOf pv+1).toNat);case atStart=>exact⟨_,i,hi,rfl,X6 ⟨rfl,rfl,bA.alloc (by simp) _,vS.alloc _⟩⟩
 case round=>
  obtain⟨p,k,hk,rfl,H⟩:=hrel;have hp:=qg l k;rw[<-H.1]at hp;have bx:=H.2.2.2.c3;by_cases h0:0<=p
  ·obtain⟨q,rfl⟩:=ZY h0;have d0:decide ((0:Int)<=(q:Int))=true:=YC h0;have hq:q<l.length:=(by omega);by_cases he:(q:Int)=over
   ·have e0:((q:Int) == over)=true:=ZR.2 he;have HA:=X6 (show decide (over∈EZ l i)=true by rw[H.2.1,DF H.1.symm,<-he];simp);clear he;go_wp2_with fail;go_ret;exact⟨by rw[HA.out];rfl,H.2.2.1⟩
   ·have e0:((q:Int) == over)=false:=ZO.2 he;have HA:=X6 (show decide (over∈EZ l i)=decide (over∈EZ l q) by rw[H.2.1,DF H.1.symm];simp[Y7,show¬over=(q:Int)from λx=>he x.symm]);clear he;go_wp2_with fail;refine(HP.out _ q hq H.2.2.1).mono ?_;rintro e w1 ⟨rfl,rfl⟩;go_wp2_with fail;have L5:=qg l q;go_roundw;case rel=>exact⟨_,q,hq,rfl,X6 ⟨rfl,HA.out,H.2.2.1.alloc H.2.2.1.size _,H.2.2.2.alloc _⟩⟩
    case measure=>simp[intOf];omega
  ·have d0:decide ((0:Int)<=p)=false:=X9 h0;have HA:=X6 (show decide (over∈EZ l i)=false by rw[H.2.1,KX (by rw[<-H.1];omega)];simp);go_wp2_with fail;go_ret;exact⟨by rw[HA.out];rfl,H.2.2.1⟩
theorem Rd(i:Nat)(hi:i<l.length)(hn:l.length<=4294967296)(hr:Reads w w.heap.size 44 A l.length (lI l)): Calls prog 68 #[.agg #[.slice A l.length c,.slice A2 m c2,view],.int .i64 i] w λe w'=>e= .returned (.int .i64 (1+((EZ l i).length:Int)))/\Below w.heap.size w w':=by
 have HR:=X6 hr;have vS:Hid (lq (w.alloc (.cells #[.slice A l.length c,.slice A2 m c2,view] 25)) w.heap.size 25 #[.slice A l.length c,.slice A2 m c2,view]):=X6 (lq.new _ _ _);have HP:=X6 (λW (i:Nat) (hi:i<l.length) (hb:Below w.heap.size w W)=>sZ l A A2 c m c2 view W i hi hn ((hr.below hb).more hb.size));clear hr;go_enter func68,ntmps68;go_wp2_with fail;refine(HP.out _ i hi bA).mono ?_;rintro e w1 ⟨rfl,rfl⟩;go_wp2_with fail;go_loopw [5,6] (λnv pv wr=>∃(p n:Int) (k:Nat),k<l.length/\1<=n/\n+p<=l.length/\nv= .int .i64 n/\pv= .int .i64 p/\Hid (p=nB l k/\(1+((EZ l i).length:Int)=n+((EZ l k).length:Int))/\Below w.heap.size w wr/\lq wr w.heap.size 25 #[.slice A l.length c,.slice A2 m c2,view])) (λ_ pv _=>(intOf pv+1).toNat);case atStart=>exact⟨_,1,i,hi,by omega,by have:=qg l i;omega,rfl,rfl,X6 ⟨rfl,rfl,bA.alloc (by simp) _,vS.alloc _⟩⟩
 case round=>
  obtain⟨p,n,k,hk,Oy,hn2,rfl,rfl,H⟩:=hrel;have hp:=qg l k;rw[<-H.1]at hp;have bx:=H.2.2.2.c3;have hwn:IntKind.i64.wrap (n+1)=n+1:=YG _ ⟨by omega,by omega⟩;by_cases h0:0<=p
  ·obtain⟨q,rfl⟩:=ZY h0;have d0:decide ((0:Int)<=(q:Int))=true:=YC h0;have hq:q<l.length:=(by omega);have HA:=X6 (show 1+((EZ l i).length:Int)=(n+1)+((EZ l q).length:Int) by rw[H.2.1,DF H.1.symm];simp;omega);go_wp2_with fail;refine(HP.out _ q hq H.2.2.1).mono ?_;rintro e w1 ⟨rfl,rfl⟩;go_wp2_with fail;have L5:=qg l q;go_roundw;case rel=>exact⟨_,n+1,q,hq,by omega,by omega,rfl,rfl,X6 ⟨rfl,HA.out,H.2.2.1.alloc H.2.2.1.size _,H.2.2.2.alloc _⟩⟩
   case measure=>simp[intOf];omega
  ·have d0:decide ((0:Int)<=p)=false:=X9 h0;have HA:=X6 (show 1+((EZ l i).length:Int)=n by rw[H.2.1,KX (by rw[<-H.1];omega)];simp);go_wp2_with fail;go_ret;exact⟨by rw[HA.out];rfl,H.2.2.1⟩
def FirstOf(l:List Nd)(p i:Nat)(r:Int):Prop:=(∃k:Nat,r=k/\p<k/\k<i/\nB l k=p/\∀j,p<j->j<k->nB l j≠p)\/(r= -1/\∀j,p<j->j<i->nB l j≠p)
structure UR(l:List Nd)(p i:Nat)(w w':World)(e:Ending):Prop where
 ex:∃r,e= .returned (.int .i64 r)/\FirstOf l p i r
 b:Below w.heap.size w w'
theorem Qg(p i:Nat)(hpi:p<i)(hi:i<l.length)(hn:l.length<=4294967296)(hr:Reads w w.heap.size 44 A l.length (lI l)): Calls prog 70 #[.agg #[.slice A l.length c,.slice A2 m c2,view],.int .i64 p,.int .i64 i] w λe w'=>UR l p i w w' e:=by
 have HR:=X6 hr;have vS:Hid (lq (w.alloc (.cells #[.slice A l.length c,.slice A2 m c2,view] 25)) w.heap.size 25 #[.slice A l.length c,.slice A2 m c2,view]):=X6 (lq.new _ _ _);have HP:=X6 (λW (i:Nat) (hi:i<l.length) (hb:Below w.heap.size w W)=>sZ l A A2 c m c2 view W i hi hn ((hr.below hb).more hb.size));have mW:IntKind.i64.wrap ((p:Int)+1)=(p:Int)+1:=YG _ ⟨by omega,by omega⟩;clear hr;go_enter func70,ntmps70;go_wp2_with fail;go_loopw [7] (λkv wr=>∃(k:Nat),p<k/\k<=i/\kv= .int .i64 k/\Hid ((∀j,p<j->j<k->nB l j≠p)/\Below w.heap.size w wr/\lq wr w.heap.size 25 #[.slice A l.length c,.slice A2 m c2,view])) (λkv _=>i-(intOf kv).toNat);case atStart=>exact⟨p+1,by omega,by omega,by simp,X6 ⟨λj h1 h2=>by omega,bA,vS.out⟩⟩
 case round=>
  obtain⟨k,hpk,Fe,rfl,H⟩:=hrel;have bx:=H.2.2.c3;have C2:IntKind.i64.wrap ((k:Int)+1)=(k:Int)+1:=YG _ ⟨by omega,by omega⟩;by_cases lN:k<i
  ·have d0:decide ((k:Int)<(i:Int))=true:=YC (by omega);have pJ:decide (k<i)=true:=YC lN;have hk:k<l.length:=(by omega);go_wp2_with fail;refine(HP.out _ k hk H.2.1).mono ?_;rintro e w1 ⟨rfl,rfl⟩;by_cases he:nB l k=(p:Int)
   ·have e0:(nB l k == (p:Int))=true:=ZR.2 he;have HE:=X6 he;clear he;go_wp2_with fail;go_ret;exact⟨⟨_,rfl,.inl ⟨k,rfl,hpk,lN,HE.out,H.1⟩⟩,H.2.1.alloc H.2.1.size _⟩
   ·have e0:(nB l k == (p:Int))=false:=ZO.2 he;have HE:=X6 he;clear he;go_wp2_with fail;go_roundw;case rel=>exact⟨k+1,by omega,by omega,by go_num,X6 ⟨λj h1 h2=>by
     by_cases hj:j=k
     ·rw[hj];exact HE.out
     ·exact H.1 j h1 (by omega),H.2.1.alloc H.2.1.size _,H.2.2.alloc _⟩⟩
    case measure=>simp[intOf];omega
  ·have d0:decide ((k:Int)<(i:Int))=false:=X9 (by omega);have pJ:decide (k<i)=false:=X9 lN;go_wp2_with fail;go_ret;exact⟨⟨_,rfl,.inr ⟨rfl,λj h1 h2=>H.1 j h1 (by omega)⟩⟩,H.2.1⟩
end
end
section
open Go.ChangeShapes Go.WideShapes Go.ChangeAt Go.RowKit
structure TrI(w:World)(A A2:Option Addr)(l:List Nd)(adv:List Int):Prop where
 nd:Reads w w.heap.size 44 A l.length (lI l)
 ad:Reads w w.heap.size 1 A2 adv.length (lY adv)
 un:∀x∈l,∃Au cu,x.s.uv= .slice Au x.s.mu.length cu/\x.s.mu.length<=cu/\Reads w w.heap.size 1 Au x.s.mu.length (uP x.s.mu)/\xh x.s.mu
 i64:rM adv
section
variable{H:Type}{enc:TypeId×Value->H}{W:World}
theorem Lw{α:Type}{encd:α->List Value}{good:α->Prop}{P:Program}{W:World}{t e:TypeId}{size:Nat}{v:Value}{d:DataW H}{ps:List MemPlace}(ht:P.underlying t=some (.slice e))(hc:P.cellsOf e=size)(KJ:0<size) (hg:∀n cs y,cs.length=size->DataW.trod enc P W 0 (λ_=>true) true n e cs=some y->(∀p∈y.2,p∈ps)->∃x,cs=encd x/\good x) (lN:∀x∈ps,x.block<W.heap.size) (hv:∃A len c,v= .slice A len c) (h:DataW.Trod enc P W 0 (λ_=>true) true t v d ps): ∃A c,∃l:List α,v= .slice A l.length c/\l.length<=c/\(∀x∈l,good x)/\Reads W W.heap.size size A l.length (l.flatMap encd):=by
 obtain⟨A,len,c,rfl⟩:=hv;obtain⟨fuel,hf⟩:=h;rcases aDO ht hf with⟨hcs,_⟩ | ⟨a,len',cap,m,n,D,Pl,hcs,_,hl,_,hm,hx,hel⟩
 ·simp[Value.cells]at hcs;obtain⟨rfl,rfl,rfl⟩:=hcs;exact⟨none,0,[],rfl,by simp,by simp,Reads.none_⟩
 ·simp[Value.cells]at hcs;obtain⟨rfl,rfl,rfl⟩:=hcs;rw[hc]at hel;simp only[Z4]at hm;subst hm;have hel':∀i,∃r:List Value,i<m->r.length=size/\(∃x,r=encd x/\good x)/\∀j u,r[j]? =some u->W.cell? (a.add (i*size+j))=some u:=by
   intro i;by_cases hi:i<m
   ·obtain⟨cs,h1,h2⟩:=hel i hi;obtain⟨_,hlen,zX⟩:=World.cells?_some h1;refine⟨cs,λ_=>⟨hlen,hg _ _ _ hlen h2 (λp hp=>by have e2:=(Prod.mk.inj hx).2;rw[e2];exact aDF _ (List.mem_flatMap.2 ⟨i,ZK.2 hi,hp⟩)),λj u hu=>?_⟩⟩;have hj:j<size:=(by rw[<-hlen];exact(YT.1 hu).1);rw[<-mJ,zX j hj];exact hu
   ·exact⟨[],λh=>absurd h hi⟩
  obtain⟨R,hR⟩:=Classical.axiomOfChoice hel';obtain⟨l,Kn,FW⟩:=vF (encd:=encd) (good:=good) ((List.range len).map R) (by intro r hr;obtain⟨i,hi,rfl⟩:=Z7.1 hr;exact(hR i (by have:=ZK.1 hi;omega)).2.1);have hll:l.length=len:=by have:=aCV List.length Kn;simpa using this.symm
  have Aj:l.flatMap encd=((List.range len).map R).flatten:=by rw[Kn,aBT]
  have tH:∀r∈(List.range len).map R,r.length=size:=λr hr=>by obtain⟨i,hi,rfl⟩:=Z7.1 hr;exact(hR i (by have:=ZK.1 hi;omega)).1
  refine⟨some a,m,l,by rw[hll],by omega,FW,?_,λhn=>⟨a,rfl,?_,λj u hu=>?_⟩⟩
  ·rw[Aj,rX size _ tH,hll];simp
  ·have hp:MemPlace.cell a.block (a.off+0)∈ps:=(by have e:ps=MemPlace.row a (m*size)++(List.range m).flatMap Pl:=(by rw[<-hc];exact(Prod.mk.inj hx).2);rw[e];refine aA4 _ (Z7.2 ⟨0,ZK.2 ?_,rfl⟩);exact Nat.mul_pos (by omega) KJ);exact lN _ hp
  ·have hj:j<len*size:=(by have:=(YT.1 hu).1;rw[Aj,rX size _ tH]at this;simpa using this);have hk:j / size<len:=aDJ (by rw[aC8];exact hj);have hi:j % size<size:=Nat.mod_lt _ KJ;have ej:j / size*size+j % size=j:=Nat.div_add_mod' j size;rw[Aj,<-ej,zw size _ tH (j / size) (j % size) (R (j / size)) (by simp[hk]) hi]at hu;rw[<-ej];exact(hR (j / size) (by omega)).2.2 _ _ hu
theorem yE{P:Program}{t e:TypeId}{n:Nat}{v:Value}{y:DataW H×List MemPlace}(ht:P.underlying t=some (.slice e))(h:DataW.trod enc P W 0 (λ_=>true) true n t [v]=some y): (∃A len c,v= .slice A len c)/\DataW.Trod enc P W 0 (λ_=>true) true t v y.1 y.2:=by
 have hf:∃A len c,v= .slice A len c:=by
  rcases aDO ht h with⟨hcs,_⟩ | ⟨a,len',cap,m,n,D,Pl,hcs,_⟩
  ·injection hcs with hcs _;exact⟨_,_,_,hcs⟩
  ·injection hcs with hcs _;exact⟨_,_,_,hcs⟩
 refine⟨hf,n,?_⟩;obtain⟨A,len,c,rfl⟩:=hf;exact h
theorem Ld{n:Nat}{v:Value}{y:DataW H×List MemPlace}(lN:∀x∈y.2,x.block<W.heap.size)(h:DataW.trod enc prog W 0 (λ_=>true) true n 61 [v]=some y): ∃A c,∃l:List Int,v= .slice A l.length c/\l.length<=c/\xh l/\Reads W W.heap.size 1 A l.length (uP l):=by obtain⟨h1,h2⟩:=yE underlying61 h;exact NS lN h1 h2
theorem pX{n:Nat}{a b:Value}{y:DataW H×List MemPlace}(h:DataW.trod enc prog W 0 (λ_=>true) true n 58 [a,b]=some y):∃x:Ln,a= .int .u8 x.k/\b= .int .i64 x.n:=by obtain⟨m0,y0,x0,-⟩:=lS underlying58 h 0 rfl rfl rfl (show prog.cellsOf 5=1 by kernel_rfl);obtain⟨n0,e0,-,-⟩:=Z0 underlying5 x0;obtain⟨m1,y1,x1,-⟩:=lS underlying58 h 1 rfl rfl rfl (show prog.cellsOf 2=1 by kernel_rfl);obtain⟨n1,e1,-,-⟩:=Z0 underlying2 x1;simp at e0 e1;exact⟨⟨n0,n1⟩,e0,e1⟩
theorem Re{n:Nat}{c0 c1 c2 c3 c4 c5 c6 c7:Value}{y:DataW H×List MemPlace}(h:DataW.trod enc prog W 0 (λ_=>true) true n 59 [c0,c1,c2,c3,c4,c5,c6,c7]=some y): ∃x0 x1 x2 x3:Ln,c0= .int .u8 x0.k/\c1= .int .i64 x0.n/\c2= .int .u8 x1.k/\c3= .int .i64 x1.n/\c4= .int .u8 x2.k/\c5= .int .i64 x2.n/\c6= .int .u8 x3.k/\c7= .int .i64 x3.n:=by obtain⟨xs,m,_,_,_,hx,hf⟩:=DataW.trod_array underlying59 h;rw[show prog.cellsOf 58=2 by kernel_rfl]at hf;have g:∀i (hi:i<4),∃z,xs[i]? =some z:=λi hi=>⟨_,YH (by omega)⟩;obtain⟨z0,h0⟩:=g 0 (by omega);obtain⟨z1,h1⟩:=g 1 (by omega);obtain⟨z2,h2⟩:=g 2 (by omega);obtain⟨z3,h3⟩:=g 3 (by omega);obtain⟨x0,p0,p1⟩:=pX ((hf 0 (by omega)).trans h0);obtain⟨x1,p2,p3⟩:=pX ((hf 1 (by omega)).trans h1);obtain⟨x2,p4,p5⟩:=pX ((hf 2 (by omega)).trans h2);obtain⟨x3,p6,p7⟩:=pX ((hf 3 (by omega)).trans h3);exact⟨x0,x1,x2,x3,p0,p1,p2,p3,p4,p5,p6,p7⟩
theorem wX{n:Nat}{a:Value}{y:DataW H×List MemPlace}(h:DataW.trod enc prog W 0 (λ_=>true) true n 2 [a]=some y):∃x:Int,a= .int .i64 x:=by obtain⟨n0,e0,-,-⟩:=Z0 underlying2 h;injection e0 with e0 _;exact⟨n0,e0⟩
theorem GX{n:Nat}{c0 c1 c2 c3:Value}{y:DataW H×List MemPlace}(h:DataW.trod enc prog W 0 (λ_=>true) true n 60 [c0,c1,c2,c3]=some y): ∃x0 x1 x2 x3:Int,c0= .int .i64 x0/\c1= .int .i64 x1/\c2= .int .i64 x2/\c3= .int .i64 x3:=by obtain⟨xs,m,_,_,_,hx,hf⟩:=DataW.trod_array underlying60 h;rw[show prog.cellsOf 2=1 by kernel_rfl]at hf;have g:∀i (hi:i<4),∃z,xs[i]? =some z:=λi hi=>⟨_,YH (by omega)⟩;obtain⟨z0,h0⟩:=g 0 (by omega);obtain⟨z1,h1⟩:=g 1 (by omega);obtain⟨z2,h2⟩:=g 2 (by omega);obtain⟨z3,h3⟩:=g 3 (by omega);obtain⟨x0,p0⟩:=wX ((hf 0 (by omega)).trans h0);obtain⟨x1,p1⟩:=wX ((hf 1 (by omega)).trans h1);obtain⟨x2,p2⟩:=wX ((hf 2 (by omega)).trans h2);obtain⟨x3,p3⟩:=wX ((hf 3 (by omega)).trans h3);exact⟨x0,x1,x2,x3,p0,p1,p2,p3⟩
def UnOk(W:World)(s:me):Prop:=∃Au cu,s.uv= .slice Au s.mu.length cu/\s.mu.length<=cu/\Reads W W.heap.size 1 Au s.mu.length (uP s.mu)/\xh s.mu
theorem Uh{n:Nat}{cs:List Value}{y:DataW H×List MemPlace}(hl:cs.length=43)(lN:∀p∈y.2,p.block<W.heap.size)(h:DataW.trod enc prog W 0 (λ_=>true) true n 63 cs=some y):∃s:me,cs=lj s/\UnOk W s:=by
 obtain⟨c0,t0,rfl⟩:=YI hl;have hl0:t0.length=42:=by simpa using hl
 obtain⟨c1,t1,rfl⟩:=YI hl0;have Kn:t1.length=41:=by simpa using hl0
 obtain⟨c2,t2,rfl⟩:=YI Kn;have FW:t2.length=40:=by simpa using Kn
 obtain⟨c3,t3,rfl⟩:=YI FW;have Tb:t3.length=39:=by simpa using FW
 obtain⟨c4,t4,rfl⟩:=YI Tb;have hl4:t4.length=38:=by simpa using Tb
 obtain⟨c5,t5,rfl⟩:=YI hl4;have XE:t5.length=37:=by simpa using hl4
 obtain⟨c6,t6,rfl⟩:=YI XE;have hl6:t6.length=36:=by simpa using XE
 obtain⟨c7,t7,rfl⟩:=YI hl6;have hl7:t7.length=35:=by simpa using hl6
 obtain⟨c8,t8,rfl⟩:=YI hl7;have hl8:t8.length=34:=by simpa using hl7
 obtain⟨c9,t9,rfl⟩:=YI hl8;have hl9:t9.length=33:=by simpa using hl8
 obtain⟨tF,t10,rfl⟩:=YI hl9;have Xw:t10.length=32:=by simpa using hl9
 obtain⟨oN,t11,rfl⟩:=YI Xw;have hl11:t11.length=31:=by simpa using Xw
 obtain⟨uT,t12,rfl⟩:=YI hl11;have hl12:t12.length=30:=by simpa using hl11
 obtain⟨AV,t13,rfl⟩:=YI hl12;have hl13:t13.length=29:=by simpa using hl12
 obtain⟨BU,t14,rfl⟩:=YI hl13;have hl14:t14.length=28:=by simpa using hl13
 obtain⟨c15,t15,rfl⟩:=YI hl14;have hl15:t15.length=27:=by simpa using hl14
 obtain⟨Hs,t16,rfl⟩:=YI hl15;have hl16:t16.length=26:=by simpa using hl15
 obtain⟨Hc,t17,rfl⟩:=YI hl16;have hl17:t17.length=25:=by simpa using hl16
 obtain⟨CV,t18,rfl⟩:=YI hl17;have hl18:t18.length=24:=by simpa using hl17
 obtain⟨c19,t19,rfl⟩:=YI hl18;have hl19:t19.length=23:=by simpa using hl18
 obtain⟨c20,t20,rfl⟩:=YI hl19;have hl20:t20.length=22:=by simpa using hl19
 obtain⟨c21,t21,rfl⟩:=YI hl20;have hl21:t21.length=21:=by simpa using hl20
 obtain⟨c22,t22,rfl⟩:=YI hl21;have hl22:t22.length=20:=by simpa using hl21
 obtain⟨c23,t23,rfl⟩:=YI hl22;have hl23:t23.length=19:=by simpa using hl22
 obtain⟨c24,t24,rfl⟩:=YI hl23;have hl24:t24.length=18:=by simpa using hl23
 obtain⟨c25,t25,rfl⟩:=YI hl24;have hl25:t25.length=17:=by simpa using hl24
 obtain⟨c26,t26,rfl⟩:=YI hl25;have hl26:t26.length=16:=by simpa using hl25
 obtain⟨c27,t27,rfl⟩:=YI hl26;have hl27:t27.length=15:=by simpa using hl26
 obtain⟨c28,t28,rfl⟩:=YI hl27;have hl28:t28.length=14:=by simpa using hl27
 obtain⟨c29,t29,rfl⟩:=YI hl28;have hl29:t29.length=13:=by simpa using hl28
 obtain⟨c30,t30,rfl⟩:=YI hl29;have hl30:t30.length=12:=by simpa using hl29
 obtain⟨c31,t31,rfl⟩:=YI hl30;have hl31:t31.length=11:=by simpa using hl30
 obtain⟨c32,t32,rfl⟩:=YI hl31;have hl32:t32.length=10:=by simpa using hl31
 obtain⟨c33,t33,rfl⟩:=YI hl32;have hl33:t33.length=9:=by simpa using hl32
 obtain⟨c34,t34,rfl⟩:=YI hl33;have hl34:t34.length=8:=by simpa using hl33
 obtain⟨c35,t35,rfl⟩:=YI hl34;have hl35:t35.length=7:=by simpa using hl34
 obtain⟨c36,t36,rfl⟩:=YI hl35;have hl36:t36.length=6:=by simpa using hl35
 obtain⟨c37,t37,rfl⟩:=YI hl36;have hl37:t37.length=5:=by simpa using hl36
 obtain⟨c38,t38,rfl⟩:=YI hl37;have hl38:t38.length=4:=by simpa using hl37
 obtain⟨c39,t39,rfl⟩:=YI hl38;have hl39:t39.length=3:=by simpa using hl38
 obtain⟨c40,t40,rfl⟩:=YI hl39;have hl40:t40.length=2:=by simpa using hl39
 obtain⟨c41,t41,rfl⟩:=YI hl40;have hl41:t41.length=1:=by simpa using hl40
 obtain⟨c42,t42,rfl⟩:=YI hl41;have hl42:t42.length=0:=by simpa using hl41
 obtain rfl:=aBI hl42;obtain⟨m0,z0,x0,q0⟩:=lS (e:=5) (o:=0) underlying63 h 0 rfl rfl rfl (show prog.cellsOf 5=1 by kernel_rfl);simp only[Y5,ZE,Y0,ZB]at x0;obtain⟨n0,e0,-,w0⟩:=Z0 underlying5 x0;injection e0 with e0 _;obtain⟨m1,z1,x1,q1⟩:=lS (e:=4) (o:=1) underlying63 h 1 rfl rfl rfl (show prog.cellsOf 4=1 by kernel_rfl);simp only[Y5,ZE,Y0,ZB]at x1;obtain⟨n1,e1,-⟩:=DataW.trod_bool underlying4 x1;injection e1 with e1 _;obtain⟨m2,z2,x2,q2⟩:=lS (e:=5) (o:=2) underlying63 h 2 rfl rfl rfl (show prog.cellsOf 5=1 by kernel_rfl);simp only[Y5,ZE,Y0,ZB]at x2;obtain⟨n2,e2,-,w2⟩:=Z0 underlying5 x2;injection e2 with e2 _;obtain⟨m3,z3,x3,q3⟩:=lS (e:=5) (o:=3) underlying63 h 3 rfl rfl rfl (show prog.cellsOf 5=1 by kernel_rfl);simp only[Y5,ZE,Y0,ZB]at x3;obtain⟨n3,e3,-,w3⟩:=Z0 underlying5 x3;injection e3 with e3 _;obtain⟨m4,z4,x4,q4⟩:=lS (e:=58) (o:=4) underlying63 h 4 rfl rfl rfl (show prog.cellsOf 58=2 by kernel_rfl);simp only[Y5,ZE,Y0,ZB]at x4;obtain⟨n4,e4,f4⟩:=pX x4;obtain⟨m5,z5,x5,q5⟩:=lS (e:=58) (o:=6) underlying63 h 5 rfl rfl rfl (show prog.cellsOf 58=2 by kernel_rfl);simp only[Y5,ZE,Y0,ZB]at x5;obtain⟨n5,e5,f5⟩:=pX x5;obtain⟨m6,z6,x6,q6⟩:=lS (e:=58) (o:=8) underlying63 h 6 rfl rfl rfl (show prog.cellsOf 58=2 by kernel_rfl);simp only[Y5,ZE,Y0,ZB]at x6;obtain⟨n6,e6,f6⟩:=pX x6;obtain⟨m7,z7,x7,q7⟩:=lS (e:=58) (o:=10) underlying63 h 7 rfl rfl rfl (show prog.cellsOf 58=2 by kernel_rfl);simp only[Y5,ZE,Y0,ZB]at x7;obtain⟨n7,e7,f7⟩:=pX x7;obtain⟨m8,z8,x8,q8⟩:=lS (e:=58) (o:=12) underlying63 h 8 rfl rfl rfl (show prog.cellsOf 58=2 by kernel_rfl);simp only[Y5,ZE,Y0,ZB]at x8;obtain⟨n8,e8,f8⟩:=pX x8;obtain⟨m9,z9,x9,q9⟩:=lS (e:=58) (o:=14) underlying63 h 9 rfl rfl rfl (show prog.cellsOf 58=2 by kernel_rfl);simp only[Y5,ZE,Y0,ZB]at x9;obtain⟨n9,e9,f9⟩:=pX x9;obtain⟨m10,z10,x10,q10⟩:=lS (e:=59) (o:=16) underlying63 h 10 rfl rfl rfl (show prog.cellsOf 59=8 by kernel_rfl);simp only[Y5,ZE,Y0,ZB]at x10;obtain⟨a10,sr,d10,g10,e100,e101,e102,e103,e104,e105,e106,e107⟩:=Re x10;obtain⟨KV,z11,x11,q11⟩:=lS (e:=60) (o:=24) underlying63 h 11 rfl rfl rfl (show prog.cellsOf 60=4 by kernel_rfl);simp only[Y5,ZE,Y0,ZB]at x11;obtain⟨a11,py,d11,pc,e110,e111,Nq,e113⟩:=GX x11;obtain⟨m12,z12,x12,q12⟩:=lS (e:=60) (o:=28) underlying63 h 12 rfl rfl rfl (show prog.cellsOf 60=4 by kernel_rfl);simp only[Y5,ZE,Y0,ZB]at x12;obtain⟨a12,sJ,d12,g12,e120,e121,e122,e123⟩:=GX x12;obtain⟨J2,z13,x13,q13⟩:=lS (e:=5) (o:=32) underlying63 h 13 rfl rfl rfl (show prog.cellsOf 5=1 by kernel_rfl);simp only[Y5,ZE,Y0,ZB]at x13;obtain⟨n13,e13,-,DI⟩:=Z0 underlying5 x13;injection e13 with e13 _;obtain⟨m14,z14,x14,q14⟩:=lS (e:=2) (o:=33) underlying63 h 14 rfl rfl rfl (show prog.cellsOf 2=1 by kernel_rfl);simp only[Y5,ZE,Y0,ZB]at x14;obtain⟨n14,e14,-,w14⟩:=Z0 underlying2 x14;injection e14 with e14 _;obtain⟨Yo,z15,x15,q15⟩:=lS (e:=4) (o:=34) underlying63 h 15 rfl rfl rfl (show prog.cellsOf 4=1 by kernel_rfl);simp only[Y5,ZE,Y0,ZB]at x15;obtain⟨n15,e15,-⟩:=DataW.trod_bool underlying4 x15;injection e15 with e15 _;obtain⟨m16,z16,x16,q16⟩:=lS (e:=5) (o:=35) underlying63 h 16 rfl rfl rfl (show prog.cellsOf 5=1 by kernel_rfl);simp only[Y5,ZE,Y0,ZB]at x16;obtain⟨n16,Mw,-,w16⟩:=Z0 underlying5 x16;injection Mw with Mw _;obtain⟨m17,z17,x17,q17⟩:=lS (e:=5) (o:=36) underlying63 h 17 rfl rfl rfl (show prog.cellsOf 5=1 by kernel_rfl);simp only[Y5,ZE,Y0,ZB]at x17;obtain⟨n17,KG,-,w17⟩:=Z0 underlying5 x17;injection KG with KG _;obtain⟨m18,z18,x18,q18⟩:=lS (e:=3) (o:=37) underlying63 h 18 rfl rfl rfl (show prog.cellsOf 3=1 by kernel_rfl);simp only[Y5,ZE,Y0,ZB]at x18;obtain⟨n18,Jb,-,w18⟩:=Z0 underlying3 x18;injection Jb with Jb _;obtain⟨m19,z19,x19,q19⟩:=lS (e:=2) (o:=38) underlying63 h 19 rfl rfl rfl (show prog.cellsOf 2=1 by kernel_rfl);simp only[Y5,ZE,Y0,ZB]at x19;obtain⟨n19,e19,-,w19⟩:=Z0 underlying2 x19;injection e19 with e19 _;obtain⟨m20,z20,x20,q20⟩:=lS (e:=2) (o:=39) underlying63 h 20 rfl rfl rfl (show prog.cellsOf 2=1 by kernel_rfl);simp only[Y5,ZE,Y0,ZB]at x20;obtain⟨n20,e20,-,TD⟩:=Z0 underlying2 x20;injection e20 with e20 _;obtain⟨m21,z21,x21,q21⟩:=lS (e:=58) (o:=40) underlying63 h 21 rfl rfl rfl (show prog.cellsOf 58=2 by kernel_rfl);simp only[Y5,ZE,Y0,ZB]at x21;obtain⟨n21,e21,f21⟩:=pX x21;obtain⟨m22,z22,x22,q22⟩:=lS (e:=61) (o:=42) underlying63 h 22 rfl rfl rfl (show prog.cellsOf 61=1 by kernel_rfl);simp only[Y5,ZE,Y0,ZB]at x22;obtain⟨A,c,u,e22,hc,hu,hr⟩:=Ld (λp hp=>lN p (q22 p hp)) x22;refine⟨⟨n0,n1,n2,n3,n4,n5,n6,n7,n8,n9,a10,sr,d10,g10,a11,py,d11,pc,a12,sJ,d12,g12,n13,n14,n15,n16,n17,n18,n19,n20,n21,u,.slice A u.length c⟩,?_,A,c,rfl,hc,hr,hu⟩;rw[e0,e1,e2,e3,e4,f4,e5,f5,e6,f6,e7,f7,e8,f8,e9,f9,e100,e101,e102,e103,e104,e105,e106,e107,e110,e111,Nq,e113,e120,e121,e122,e123,e13,e14,e15,Mw,KG,Jb,e19,e20,e21,f21,e22];rfl
theorem nd_good{n:Nat}{cs:List Value}{y:DataW H×List MemPlace}(hl:cs.length=44)(lN:∀p∈y.2,p.block<W.heap.size)(h:DataW.trod enc prog W 0 (λ_=>true) true n 65 cs=some y):∃x:Nd,cs=oe x/\UnOk W x.s:=by
 obtain⟨m0,y0,x0,-⟩:=lS underlying65 h 0 rfl rfl rfl (show prog.cellsOf 3=1 by kernel_rfl);obtain⟨n0,e0,-,-⟩:=Z0 underlying3 x0;obtain⟨m1,y1,x1,q1⟩:=lS (e:=63) (o:=1) underlying65 h 1 rfl rfl rfl (show prog.cellsOf 63=43 by kernel_rfl);cases cs with
 | nil=>simp at hl
 | cons c0 t=>
  have ht:t.length=43:=by simpa using hl
  have e1:((c0::t).drop 1).take 43=t:=by rw[Y5,ZE,YY (by omega)]
  rw[e1]at x1;obtain⟨s,hs,hu⟩:=Uh ht (λp hp=>lN p (q1 p hp)) x1;simp at e0;exact⟨⟨n0,s⟩,by rw[e0,hs];rfl,hu⟩
theorem Na{v:Value}{d:DataW H}{ps:List MemPlace}(lN:∀x∈ps,x.block<W.heap.size)(hv:∃cs,v= .agg cs/\cs.size=prog.cellsOf 25)(h:DataW.Trod enc prog W 0 (λ_=>true) true 25 v d ps): ∃A c A2 c2 view,∃l:List Nd,∃adv:List Int,v= .agg #[.slice A l.length c,.slice A2 adv.length c2,.int .i64 view]/\TrI W A A2 l adv:=by
 obtain⟨cs,rfl,tH⟩:=hv;rw[show prog.cellsOf 25=3 by kernel_rfl]at tH;obtain⟨fuel,hf⟩:=h;obtain⟨a0,a1,a2,rfl⟩:∃a0 a1 a2,cs= #[a0,a1,a2]:=by
  have hl:cs.toList.length=3:=by simpa using tH
  match hc:cs.toList,hl with
  | [a0,a1,a2],_=>exact⟨a0,a1,a2,by rw[<-aAZ,hc]⟩
 have Yg:DataW.trod enc prog W 0 (λ_=>true) true fuel 25 [a0,a1,a2]=some (d,ps):=hf;obtain⟨m0,y0,x0,q0⟩:=lS (e:=22) (o:=0) underlying25 Yg 0 rfl rfl rfl (show prog.cellsOf 22=1 by kernel_rfl);obtain⟨m1,y1,x1,q1⟩:=lS (e:=23) (o:=1) underlying25 Yg 1 rfl rfl rfl (show prog.cellsOf 23=1 by kernel_rfl);obtain⟨m2,y2,x2,-⟩:=lS (e:=2) (o:=2) underlying25 Yg 2 rfl rfl rfl (show prog.cellsOf 2=1 by kernel_rfl);simp only[Y5,ZE,Y0,ZB]at x0 x1 x2;obtain⟨view,rfl⟩:=wX x2;obtain⟨f0,g0⟩:=yE underlying22 x0;obtain⟨f1,g1⟩:=yE underlying23 x1;have lt0:∀x∈y0.2,x.block<W.heap.size:=λx hx=>lN x (q0 x hx);obtain⟨A,c,l,rfl,hc,hg,hr⟩:=Lw (encd:=oe) (good:=λx=>UnOk W x.s) underlying22 (show prog.cellsOf 65=44 by kernel_rfl) (by omega) (λn cs y hl h hp=>nd_good hl (λp hpp=>lt0 p (hp p hpp)) h) lt0 f0 g0;obtain⟨A2,c2,adv,rfl,Xx,Tw,L6⟩:=Nx (λx hx=>lN x (q1 x hx)) f1 g1;exact⟨A,c,A2,c2,view,l,adv,rfl,⟨hr,L6,λx hx=>hg x hx,Tw⟩⟩
end
end
section
open Go.RowKit
structure Fl where
 side:Int
 x:Int
 y:Int
 w:Int
 h:Int
 deriving DecidableEq
def oL(f:Fl):List Value:=[.int .u8 f.side,.int .i64 f.x,.int .i64 f.y,.int .i64 f.w,.int .i64 f.h]
def nj(l:List Fl):List Value:=l.flatMap oL
theorem ML(x:Fl):(oL x).length=5:=rfl
theorem LB(l:List Fl):∀(k i:Nat) (hk:k<l.length),i<5->(nj l)[k*5+i]? =(oL l[k])[i]?:=by
 induction l with
 | nil=>intro k i hk;simp at hk
 | cons a t ih=>
  intro k i hk hi;have hc:nj (a::t)=oL a++nj t:=by simp[nj]
  rw[hc];rcases k with _ | k
  ·rw[YN (by rw[ML];omega)];simp
  ·rw[YQ (by rw[ML];omega),ML,show(k+1)*5+i-5=k*5+i by omega,ih k i (by simpa using hk) hi];simp
theorem Reads.fl{w:World}{B n k:Nat}{A:Option Addr}{l:List Fl}(h:Reads w B 5 A n (nj l))(hn:n=l.length)(hk:k<l.length): ∃ad:Addr,A=some ad/\ad.block<B/\w.cell? (ad.add (k*5))=some (.int .u8 l[k].side)/\w.cell? (ad.block,(ad.add (k*5)).off+1)=some (.int .i64 l[k].x)/\w.cell? (ad.block,(ad.add (k*5)).off+2)=some (.int .i64 l[k].y)/\ w.cell? (ad.block,(ad.add (k*5)).off+3)=some (.int .i64 l[k].w)/\w.cell? (ad.block,(ad.add (k*5)).off+4)=some (.int .i64 l[k].h):=by
 obtain⟨ad,e,hb,hc⟩:=h.2 (by omega);have ha:∀i,i≠0->(⟨ad.block,(ad.add (k*5)).off+i,none⟩:Addr)=ad.add (k*5+i):=by intro i hi;rw[<-mJ,show∀p:Addr,p.add i=⟨p.block,p.off+i,none⟩from λp=>by unfold Addr.add;rw[YO hi],lp]
 have hg:∀i,i<5->∀u,(oL l[k])[i]? =some u->w.cell? (ad.add (k*5+i))=some u:=λi hi u hu=>hc _ u (by rw[LB l k i hk hi];exact hu);refine⟨ad,e,hb,hg 0 (by omega) _ rfl,?_,?_,?_,?_⟩
 ·rw[ha 1 (by omega)];exact hg 1 (by omega) _ rfl
 ·rw[ha 2 (by omega)];exact hg 2 (by omega) _ rfl
 ·rw[ha 3 (by omega)];exact hg 3 (by omega) _ rfl
 ·rw[ha 4 (by omega)];exact hg 4 (by omega) _ rfl
theorem Ci{α β:Type}(f:β->α->β)(a:β)(l:List α)(k:Nat)(hk:k<l.length):(l.take (k+1)).foldl f a=f ((l.take k).foldl f a) l[k]:=by rw[YU hk,aB9];rfl
def FlB(b:Int)(l:List Fl):Prop:=∀f∈l,(-b<=f.x/\f.x<=b)/\(-b<=f.y/\f.y<=b)/\(0<=f.w/\f.w<=b)/\(0<=f.h/\f.h<=b)
theorem FlB.at_{b:Int}{l:List Fl}(h:FlB b l){k:Nat}(hk:k<l.length):(-b<=l[k].x/\l[k].x<=b)/\(-b<=l[k].y/\l[k].y<=b)/\(0<=l[k].w/\l[k].w<=b)/\(0<=l[k].h/\l[k].h<=b):=h _ (YJ hk)
theorem FlB.take{b:Int}{l:List Fl}(h:FlB b l)(k:Nat):FlB b (l.take k):=λf hf=>h f (aA3 hf)
theorem FlB.mono{b b':Int}{l:List Fl}(h:FlB b l)(hb:b<=b'):FlB b' l:=λf hf=>by have:=h f hf;omega
structure Stt where
 most:Int
 least:Int
 deriving DecidableEq
def Dy(s:me):Int:=s.b0+s.p0
def IA(s:me):Int:=s.b2+s.p2
def GP(s:me)(a:Int):Int:=max (if s.h.k=1 then s.h.n else a) 0
end
section
open Go.RowKit
theorem ot{P:Program}{c:Code}{Q:Exit->Act->World->Prop}{a:Act}{w:World}(h:c.wp P (Exit.then (λ_ _=>False) Q) a w):(Code.loop c).wp P Q a w:=
 wp_loop (λa' w'=>a'=a/\w'=w) (λ_ _=>0) ⟨rfl,rfl⟩ (by rintro a' w' ⟨rfl,rfl⟩;refine wp_mono h ?_;rintro(_ | _) a2 w2 h2<;>first | exact h2 | exact h2.elim)
end
end Go.Proofs.YtjhingednpjogaaGreat
