/- Lemmas for ValidRoom; laid together by a program. -/
import Derived.Test.YtjhingednpjogaaGreatQp
import Derived.Test.YtjhingednpjogaaGreatExtent
set_option linter.all false
set_option maxRecDepth 100000
set_option maxHeartbeats 8000000
open Go.RowKit
namespace Go.Proofs.YtjhingednpjogaaGreat
open Go.Proofs.Tryz
section
attribute [local go_sem] lp
structure P7(w:World)(B:Nat)(A A2:Option Addr)(l:List Nd)(adv:List Int):Prop where
 nd:Reads w B 44 A l.length (lI l)
 ad:Reads w B 1 A2 adv.length (lY adv)
 un:∀x∈l,∃Au cu,x.s.uv= .slice Au x.s.mu.length cu/\x.s.mu.length<=cu/\Reads w B 1 Au x.s.mu.length (uP x.s.mu)/\xh x.s.mu/\x.s.mu.length<=1048576
 i64:rM adv
 n:l.length<=65536
theorem P7.below{w w':World}{B:Nat}{A A2:Option Addr}{l:List Nd}{adv:List Int}(h:P7 w B A A2 l adv)(hb:Below B w w'):P7 w' B A A2 l adv:=
 ⟨h.nd.below hb,h.ad.below hb,λx hx=>by obtain⟨Au,cu,h1,h2,h3,h4⟩:=h.un x hx;exact⟨Au,cu,h1,h2,h3.below hb,h4⟩,h.i64,h.n⟩
theorem P7.more{w:World}{B B':Nat}{A A2:Option Addr}{l:List Nd}{adv:List Int}(h:P7 w B A A2 l adv)(hb:B<=B'):P7 w B' A A2 l adv:=
 ⟨h.nd.more hb,h.ad.more hb,λx hx=>by obtain⟨Au,cu,h1,h2,h3,h4⟩:=h.un x hx;exact⟨Au,cu,h1,h2,h3.more hb,h4⟩,h.i64,h.n⟩
theorem xH{w:World}{b1 b2 n1 n2 s1 s2:Nat}{e1 e2:TypeId}{v1 v2:Value}{x1 x2:List Value}(h1:w.ownsRow b1 e1 s1 v1 n1 x1)(h2:w.ownsRow b2 e2 s2 v2 n2 x2)(mI:e1≠e2):v1.ownBlock=none\/v1.ownBlock≠v2.ownBlock:=by
 rcases h2.2 with⟨rfl,_⟩ | ⟨g,cap,cur,rfl,_,hh,_⟩
 ·cases h:v1.ownBlock with
  | none=>exact .inl rfl
  | some b=>exact .inr (by simp[Value.ownBlock])
 ·exact .inr (lD h1 (g:=g) (t:=e2) (cs:=cur) hh mI)
structure IG(w wr:World)(v4 v5:Value)(W:List Wd)(N:List Int)(bt:Array Value):Prop where
 o4:wr.ownsRow (w.heap.size+1) 201 5 v4 W.length (mC W)
 o5:wr.ownsRow (w.heap.size+1) 3 1 v5 W.length (lY N)
 ln:N.length=W.length
 b:Below w.heap.size w wr
 bx:lq wr w.heap.size 25 bt
theorem IG.kept{w wr w':World}{v4 v5:Value}{W:List Wd}{N:List Int}{bt:Array Value}(h:IG w wr v4 v5 W N bt)(hb:Below wr.heap.size wr w'):IG w w' v4 v5 W N bt:=
 ⟨lG h.o4 hb,lG h.o5 hb,h.ln,h.b.trans (hb.mono h.b.size),h.bx.below hb h.bx.lt⟩
theorem IG.step{w wr W1 w1 w2:World}{v4 v5:Value}{W:List Wd}{N:List Int}{bt:Array Value}(h:IG w wr v4 v5 W N bt)(hb:Below wr.heap.size wr W1){x:Wd}{q:Int}{A4 A5:Option Addr}{c4 c5:Nat} (h4:w1.ownsRow (w.heap.size+1) 201 5 (.slice A4 (W.length+1) c4) (W.length+1) (mC W++na x)) (hg:W1.grownBy w1 v4.ownBlock) (h5:w2.ownsRow (w.heap.size+1) 3 1 (.slice A5 (W.length+1) c5) (W.length+1) (lY N++[.int .i64 q])) (Tw:w1.grownBy w2 v5.ownBlock): IG w w2 (.slice A4 (W.length+1) c4) (.slice A5 (W.length+1) c5) (W++[x]) (N++[q]) bt:=by
 have k:=h.kept hb;have hz:=k.bx.lt;have o5:=k.o5.kept hg (xH k.o5 k.o4 (by decide));have o4:=h4.kept Tw (xH h4 o5 (by decide));refine⟨by rw[YM,ui];exact o4,by rw[YM];simpa[lY]using h5,by simp[h.ln],?_,?_⟩
 ·exact(k.b.grown hg k.b.size (λg e=>by have:=(k.o4.lt g e.symm.symm).1;omega)).grown Tw (YL k.b.size hg.size) (λg e=>by have:=(o5.lt g e.symm.symm).1;omega)
 ·exact(k.bx.grown hg (pg k.o4 (by omega))).grown Tw (pg o5 (by omega))
structure NL(w wr:World)(v4 v5 v9:Value)(W:List Wd)(N:List Int)(bt:Array Value)(L:List Wd):Prop where
 gi:IG w wr v4 v5 W N bt
 o9:∃b,wr.ownsRow b 201 5 v9 L.length (mC L)
 dj:v9.ownBlock=none\/v9.ownBlock≠v4.ownBlock
theorem NL.o5k{w wr W1 w1:World}{v4 v5 v9:Value}{W L:List Wd}{N:List Int}{bt:Array Value}(h:NL w wr v4 v5 v9 W N bt L)(hb:Below wr.heap.size wr W1)(hg:W1.grownBy w1 v4.ownBlock): w1.ownsRow (w.heap.size+1) 3 1 v5 W.length (lY N)/\w.heap.size+1<=w1.heap.size:=by have k:=h.gi.kept hb;have hz:=k.bx.lt;exact⟨k.o5.kept hg (xH k.o5 k.o4 (by decide)),by have:=hg.size;omega⟩
theorem NL.step{w wr W1 w1 w2:World}{v4 v5 v9:Value}{W L:List Wd}{N:List Int}{bt:Array Value}(h:NL w wr v4 v5 v9 W N bt L)(hb:Below wr.heap.size wr W1){x:Wd}{q:Int}{A4 A5:Option Addr}{c4 c5:Nat} (h4:w1.ownsRow (w.heap.size+1) 201 5 (.slice A4 (W.length+1) c4) (W.length+1) (mC W++na x)) (hg:W1.grownBy w1 v4.ownBlock) (qM:(Value.slice A4 (W.length+1) c4).ownBlock=v4.ownBlock\/W1.heap.size<=((Value.slice A4 (W.length+1) c4).ownBlock).getD W1.heap.size) (h5:w2.ownsRow (w.heap.size+1) 3 1 (.slice A5 (W.length+1) c5) (W.length+1) (lY N++[.int .i64 q])) (Tw:w1.grownBy w2 v5.ownBlock): NL w w2 (.slice A4 (W.length+1) c4) (.slice A5 (W.length+1) c5) v9 (W++[x]) (N++[q]) bt L:=by
 obtain⟨b,h9⟩:=h.o9;have h91:=lG h9 hb;have h92:=h91.kept hg h.dj;have o5:=(h.o5k hb hg).1;refine⟨h.gi.step hb h4 hg h5 Tw,⟨b,h92.kept Tw (xH h92 o5 (by decide))⟩,?_⟩;rcases qM with e | e
 ·rw[e];exact h.dj
 ·cases hv:v9.ownBlock with
  | none=>exact .inl rfl
  | some g=>have:=(h91.lt g hv).2;refine .inr λe2=>?_;rw[<-e2]at e;simp at e;omega
structure GatAns(l:List Nd)(adv ks:List Int)(w w':World)(e:Ending):Prop where
 ex:∃A4 c4 A5 c5,e= .returned (.tuple #[.slice A4 (lP l adv ks).1.length c4,.slice A5 (lP l adv ks).1.length c5,.bool (lP l adv ks).2.2])/\Reads w' w'.heap.size 5 A4 (lP l adv ks).1.length (mC (lP l adv ks).1)/\Reads w' w'.heap.size 1 A5 (lP l adv ks).1.length (lY (lP l adv ks).2.1)
 b:Below w.heap.size w w'
structure Ox(A A2:Option Addr)(ad:Addr)(q n m c c2 g:Nat)(uv:Value)(W:World):Prop where
 lt:g<W.heap.size
 lta:ad.block<W.heap.size
 c0:W.cell? (g,0)=some (.slice (some ad) n c)
 c1:W.cell? (g,1)=some (.slice A2 m c2)
 cu:W.cell? (ad.block,(ad.add (q*44)).off+43)=some uv
theorem Ox.below{A A2:Option Addr}{ad:Addr}{q n m c c2 g:Nat}{uv:Value}{W W':World}(h:Ox A A2 ad q n m c c2 g uv W)(hb:Below W.heap.size W W'):Ox A A2 ad q n m c c2 g uv W':=
 ⟨YK h.lt hb.size,YK h.lta hb.size,(hb.cell (p:=(g,0)) h.lt).trans h.c0,(hb.cell (p:=(g,1)) h.lt).trans h.c1,(hb.cell (p:=(ad.block,(ad.add (q*44)).off+43)) h.lta).trans h.cu⟩
section
variable(l:List Nd)(adv ks:List Int)(A A2 Ak:Option Addr)(c c2 ck:Nat)(view:Int)(w:World)
end
end
section
attribute [local go_sem] lp
theorem letN_no{l:List Int}{k:Nat}(h:l.length<=k):rD l k=false:=by simp[rD];omega
theorem EP(l:List Int)(A:Option Addr)(c:Nat)(w:World)(hl:xh l)(hn:l.length<=1048576)(hr:Reads w w.heap.size 1 A l.length (uP l))(k:Nat)(hk:k<=1048576): Calls prog 122 #[.slice A l.length c,.int .i64 k] w λe w'=>e= .returned (.bool (rD l k))/\w=w':=by
 by_cases lN:k<l.length
 ·obtain⟨ad,u,rfl,qu,hx,hc⟩:=hr.at_ lN;have hu:u= .int .u16 l[k]:=by simpa[uP,lN]using hx.symm
  subst hu;have wC:=hl.at_ lN;have HL:Hid (rD l k=isLet l[k]):=X6 (by simp[rD,lN]);clear hx hr hl;obtain⟨x,hx⟩:∃x,l[k]=x:=⟨_,rfl⟩;rw[hx]at hc wC HL;clear hx;have zD:decide ((0:Int)<=(k:Int))=true:=by simp
  by_cases Ge:x=32
  ·subst Ge;go_enter func122,ntmps122;go_wp2_with fail;go_ret;exact⟨by rw[HL.out];rfl,rfl⟩
  ·have e1:(x != 32)=true:=(by simp[Ge]);by_cases zK:x=10
   ·subst zK;clear e1;go_enter func122,ntmps122;go_wp2_with fail;go_ret;exact⟨by rw[HL.out];rfl,rfl⟩
   ·have e2:(x != 10)=true:=(by simp[zK]);have HV:Hid (isLet x=true):=X6 (by simp[isLet,Ge,zK]);clear Ge zK;go_enter func122,ntmps122;go_wp2_with fail;go_ret;exact⟨by rw[HL.out,HV.out];rfl,rfl⟩
 ·have HL:=X6 (letN_no (l:=l) (k:=k) (by omega));clear hr;go_enter func122,ntmps122;go_wp2_with fail;go_ret;exact⟨by rw[HL.out];rfl,rfl⟩
theorem Nh(l:List Int)(A:Option Addr)(c:Nat)(w:World): Calls prog 122 #[.slice A l.length c,.int .i64 (-1)] w λe w'=>e= .returned false/\w=w':=by go_enter func122,ntmps122;go_wp2_with fail;go_ret;exact⟨rfl,rfl⟩
end
section
attribute [local go_sem] lp
theorem refR_no{l:List Int}{k:Nat}(h:pK l k=false):nQ l (k+1)=nQ l k:=by simp[nQ,h]
theorem WV{l:List Int}{k:Nat}(h:pK l k=true):nQ l (k+1)=((nQ l k).1++[⟨k,pL l k,Bv l (nQ l k).2 k,anyS l (nQ l k).2 k⟩],pL l k):=by simp[nQ,h]
theorem FN(l:List Int)(A:Option Addr)(c:Nat)(w:World)(hl:xh l)(hn:l.length<=1000000)(hr:Reads w w.heap.size 1 A l.length (uP l))(k:Nat)(hk:k<=1000000)(h:pK l k=true): Calls prog 122 #[.slice A l.length c,.int .i64 ((k:Int)-1)] w λe w'=>e= .returned false/\w=w':=by
 rcases k with _ | j
 ·exact Nh l A c w
 ·have h1:=(Ei h).2 (by omega);rw[show(((j+1:Nat):Int)-1)=(j:Int) by omega];have:=EP l A c w hl (by omega) hr j (by omega);rw[aDN]at h1;rw[h1]at this;exact this
def RI(w:World)(t l:List Int)(o f q i:Value)(k:Nat)(W:World):Prop:=
 i= .int .i64 k/\f= .bool (lT t l (nQ l k).1).2/\q= .int .i64 (nQ l k).2/\W.ownsRow w.heap.size 201 5 o (lT t l (nQ l k).1).1.length (mC (lT t l (nQ l k).1).1)/\Below w.heap.size w W
theorem RI.step{w w':World}{t l:List Int}{k:Nat}{s:Sp}{v i q:Value}{nb:Bool}(hR:nQ l (k+1)=((nQ l k).1++[s],s.up)) (lV:w'.ownsRow w.heap.size 201 5 v ((lT t l (nQ l k).1).1.length+1) (mC (lT t l (nQ l k).1).1++na (L8 t l (lT t l (nQ l k).1).1.isEmpty s))) (hb:Below w.heap.size w w') (hnb:nb=((lT t l (nQ l k).1).2 || vX t l (lT t l (nQ l k).1).1.isEmpty s)) (hi:i= .int .i64 (k+1)) (hq:q= .int .i64 s.up):RI w t l v (.bool nb) q i (k+1) w':=by
 refine⟨by rw[hi];rfl,?_,by rw[hq,hR],?_,hb⟩
 ·rw[hR,qY,hnb];rfl
 ·rw[hR,qY];simp only[r6,YM,aBC,ui];exact lV
theorem tO{P:Program}{w:World}{o:Oper}{a:Act}{t e:TypeId}{z:Value}{size bytes base n m:Nat}{v:Value}{xs:List Value}{ops:Array Oper}{rest:List Oper}{Q:Exit->Act->World->Prop}(tZ:o.guard=none)(s x:Operand) (ho:o.op= .call {callee:= .builtin .append,args:= #[s,x],argTypes:= #[t,t]}) (hE:El P t e z size bytes) (lV:w.ownsRow base e size v n xs) (rF:base<=w.heap.size) (hs:a.eval s=v) (news:List Value) {g:Nat} (hx:a.eval x= .slice g m m) (rL:g=w.heap.size) (hl:news.length=m*size) (h1:∀u∈news,u.oneCell'=true) (Bg:n+m<=4294967296) (zP:bytes<=32768) (h:∀A' c' w',w'.ownsRow base e size (.slice A' (n+m) c') (n+m) (xs++news)->(∀B w0,B<=base->Below B w0 w->Below B w0 w')->w.grownBy w' v.ownBlock-> ((Value.slice A' (n+m) c').ownBlock=v.ownBlock\/w.heap.size<=((Value.slice A' (n+m) c').ownBlock).getD w.heap.size)->wpList P ops Q rest (a.put o.dst (.slice A' (n+m) c')) w'): wpList P ops Q (o::rest) a (w.alloc (.cells news.toArray e)):=by subst rL;exact lM tZ s x ho hE lV rF hs news hx hl h1 Bg zP h
theorem of_big(x:Int)(w:World)(h0: -9223372036854775808<=x)(h1:x<9223372036854775808): Calls prog 125 #[.int .i64 x] w λe w'=>∃(m:Bool) (A:Option Addr) (c n:Nat),e= .returned (.agg #[m,.slice A n c])/\Below w.heap.size w w'/\CL w' w.heap.size (.agg #[m,.slice A n c]) 64 x:=
 (MT x w h0 h1).mono λ_ _ ⟨v,he,hv,hb⟩=>by obtain⟨m,A,c,l,hvv,h⟩:=id hv;exact⟨m,A,c,l.length,by rw[he,hvv],hb,by rw[<-hvv];exact hv⟩
theorem NH(l t:List Int)(A B:Option Addr)(c d:Nat)(w:World)(hl:xh l)(ht:rM t)(hn:l.length<=1000000)(hc:l.length<=c)(tf:Reads w w.heap.size 1 A l.length (uP l))(RU:Reads w w.heap.size 1 B t.length (lY t)): Calls prog 73 #[.slice A l.length c,.slice B t.length d] w λe w'=>∃v,e= .returned (.tuple #[v,.bool (ng t l).2])/\w'.ownsRow w.heap.size 201 5 v (ng t l).1.length (mC (ng t l).1)/\Below w.heap.size w w':=by
 have HL:=X6 tf;have HT:=X6 RU;clear tf RU;go_enter func73,ntmps73;go_wp2_with fail;go_loopw [6,7,8,9] (λo f q i wr=>∃k:Nat,k<=l.length/\RI w t l o f q i k wr) (λ_ _ _ i _=>l.length-(intOf i).toNat);case atStart=>exact⟨0,by omega,rfl,rfl,rfl,YV _ _ _ _,ZN _ _⟩
 case round=>
  obtain⟨k,hk,rfl,rfl,rfl,lV,hw⟩:=hrel;obtain⟨Av,cv,rfl⟩:=lZ lV;by_cases lN:k<l.length
  ·have LET:=λ(W:World) (hb:Below w.heap.size w W) (j:Nat) (hj:j<=1000000)=>EP l A c W hl (by omega) ((HL.below hb).more hb.size) j (by omega);cases hB:pK l k
   ·have HR:=X6 (refR_no hB);cases hL:rD l k
    ·go_wp2_with fail;refine(LET _ hw k (by omega)).mono ?_;rintro e w' ⟨rfl,rfl⟩;rw[hL];go_wp2_with fail;go_roundw;case rel=>exact⟨k+1,by omega,by go_num,by rw[HR.out],by rw[HR.out],by rw[HR.out];exact lV,hw⟩
     case measure=>simp[intOf];omega
    ·obtain⟨j,rfl⟩:∃j,k=j+1:=by
      rcases k with _ | j
      ·simp[pK,hL]at hB
      ·exact⟨j,rfl⟩
     have hL':rD l j=true:=(by simpa[pK,hL]using hB);have HJ:=X6 (show((j:Int)+1-1)=j by omega);go_wp2_with fail;refine(LET _ hw (j+1) (by omega)).mono ?_;rintro e w' ⟨rfl,rfl⟩;rw[hL];go_wp2_with fail;refine(LET _ hw j (by omega)).mono ?_;rintro e w' ⟨rfl,rfl⟩;rw[hL'];go_wp2_with fail;go_roundw;case rel=>exact⟨j+1+1,by omega,by go_num,by rw[HR.out],by rw[HR.out],by rw[HR.out];exact lV,hw⟩
     case measure=>simp[intOf];omega
   ·have hLL:=Ei hB;have HR:=X6 (WV hB);obtain⟨ad,u,rfl,qu,hx,oR⟩:=(HL.below hw).at_ lN;clear hx oR u;have hla:(nQ l k).2<=k:=U4 hk hB;have Yh:=Pj l k;have hE1:=Qq l k hk;have hE0:k<pL l k:=(by have:=Gt l (k+1);rw[zu hLL.1]at this;omega);go_wp2_with fail;refine(LET _ hw k (by omega)).mono ?_;rintro e w' ⟨rfl,rfl⟩;rw[hLL.1];go_wp2_with fail;refine(FN l (some ad) c _ hl (by omega) ((HL.below hw).more hw.size) k (by omega) hB).mono ?_;rintro e w' ⟨rfl,rfl⟩;clear hLL;go_wp2_with fail;obtain⟨wo,Bm⟩:∃wo:World,wo=wr:=⟨_,rfl⟩;subst Bm;have GA:=hw.size;obtain⟨E,hE⟩:∃E,pL l k=E:=⟨_,rfl⟩;have HE:=X6 hE;rw[hE]at hE0 hE1 HR;clear hE;have KS:Below wo.heap.size wo (wo.alloc (.cells #[k,k,lx,lx,lx] 201)):=bA;have nY:lq (wo.alloc (.cells #[k,k,lx,lx,lx] 201)) wo.heap.size 201 #[k,k,lx,lx,lx]:=lq.new _ _ _;go_loopw [] (λwr=>∃j:Nat,k<=j/\j<=E/\pL l j=E/\lq wr wo.heap.size 201 #[k,j,lx,lx,lx]/\Below wo.heap.size wo wr) (λwr=>E-(intOf ((wr.cell? (wo.heap.size,1)).getD (.int .i64 0))).toNat);case atStart=>exact⟨k,X7 _,by omega,HE.out,nY,KS⟩
    case round=>
     obtain⟨j,hj0,hj1,hjE,zy,Cx⟩:=hrel;obtain⟨c0,c1,c2,c3,c4⟩:=zy.c5;have tH:=Cx.size;have Td:=hw.trans (Cx.mono GA);have fz:=zy.frozen;have SI:=zy.lA 1 (.int .i64 (j+1));have hblt:=zy.lt;cases hL:rD l j
     ·have Sm:j=E:=(by rw[<-hjE,xI hL]);subst Sm;go_wp2_with fail;refine(LET _ Td j (by omega)).mono ?_;rintro e w' ⟨rfl,rfl⟩;rw[hL];go_wp2_with fail;obtain⟨wx,hwx⟩:∃wx:World,wx=wr:=⟨_,rfl⟩;subst hwx;have hjc:j<=c:=(by omega);have FU:j<=l.length:=hE1;clear hE1 hjE hj1 HE;obtain⟨L,hLa⟩:∃L,(nQ l k).2=L:=⟨_,rfl⟩;rw[hLa]at hla HR;have HLA:=X6 hLa;have HC0:=X6 (AJ l L L (X7 _));have HA0:=X6 (Dn l L L (X7 _));simp only[hLa];clear hLa;go_loopw [11,12] (λsv q wr=>∃m:Nat,L<=m/\m<=k/\q= .int .i64 m/\sv= .bool (anyS l L m)/\lq wr wo.heap.size 201 #[k,j,lx,lx,(Bv l L m)]/\Below wo.heap.size wo wr) (λ_ q _=>k-(intOf q).toNat);case atStart=>exact⟨L,X7 _,hla,rfl,by rw[HA0.out],by rw[HC0.out];exact zy,Cx⟩
      case round=>
       clear c0 c1 c2 c3 c4 fz zy SI Cx Td hblt tH hL HA0 HC0;obtain⟨m,Tm,hm1,rfl,rfl,zy,Cx⟩:=hrel;obtain⟨c0,c1,c2,c3,c4⟩:=zy.c5;have tH:=Cx.size;have Td:=hw.trans (Cx.mono GA);have fz:=zy.frozen;have hblt:=zy.lt;by_cases tC:m<k
       ·obtain⟨Rv,u,he,QV,hx,oR⟩:=(HL.below Td).at_ (show m<l.length by omega);injection he with he;subst he;have hmm:m<l.length:=(by omega);have hu:u= .int .u16 l[m]:=(by simpa[uP,hmm]using hx.symm);subst hu;have wC:=hl.at_ hmm;have hcm:=MF l L m;have HG:Hid (l[m]?.getD 0=l[m]):=X6 (by simp[hmm]);obtain⟨x,hxx⟩:∃x,l[m]=x:=⟨_,rfl⟩;rw[hxx]at oR wC HG;clear hx hxx;have CO:Hid (Bv l L (m+1)=if x=10 then Bv l L m+1 else Bv l L m):=X6 (by simp only[Bv,HG.out,Tm,true_and]);have TE:Hid (anyS l L (m+1)=if x=32 then true else anyS l L m):=X6 (by simp only[anyS,HG.out,Tm,true_and]);have SI:=zy.lA 4 (.int .i64 (Bv l L m+1));have hcl2:(wr.setCell (wo.heap.size,4) (.int .i64 (Bv l L m+1))).cell? (ad.add m)=some (.int .u16 x):=(YX _ _ _ _ (λe=>by have:=aCV Addr.block e;rw[lp]at this;simp at this;omega)).trans oR;obtain⟨n,Yl⟩:∃n,Bv l L m=n:=⟨_,rfl⟩;obtain⟨sb,Lo⟩:∃sb,anyS l L m=sb:=⟨_,rfl⟩;simp only[Yl,Lo];rw[Yl]at c4 hcm CO SI zy hcl2;rw[Lo]at TE;clear Yl Lo hE0;by_cases zK:x=10
        ·subst zK;cases sb;all_goals
          go_wp2_with fail;go_roundw;case rel=>exact⟨m+1,by omega,by omega,by go_num,by rw[TE.out];rfl,by rw[CO.out];exact SI,Cx.setCell (p:=(wo.heap.size,4)) (X7 _) _⟩
          case measure=>simp[intOf];omega
        ·have e1:(x == 10)=false:=(by simp[zK]);rw[YO zK]at CO;clear zK;by_cases Ge:x=32
         ·subst Ge;cases sb;all_goals
           go_wp2_with fail;go_roundw;case rel=>exact⟨m+1,by omega,by omega,by go_num,by rw[TE.out];rfl,by rw[CO.out];exact zy,Cx⟩
           case measure=>simp[intOf];omega
         ·have e2:(x == 32)=false:=(by simp[Ge]);rw[YO Ge]at TE;clear Ge;cases sb;all_goals
           go_wp2_with fail;go_roundw;case rel=>exact⟨m+1,by omega,by omega,by go_num,by rw[TE.out],by rw[CO.out];exact zy,Cx⟩
           case measure=>simp[intOf];omega
       ·obtain rfl:m=k:=(by omega);have hcm:=MF l L m;obtain⟨n,Yl⟩:∃n,Bv l L m=n:=⟨_,rfl⟩;obtain⟨sb,Lo⟩:∃sb,anyS l L m=sb:=⟨_,rfl⟩;rw[Yl,Lo]at HR;simp only[Yl,Lo];rw[Yl]at c4 hcm zy;clear Yl Lo tC hm1 KS nY Tm;have mI:¬c=m:=(by omega);have hrp:Reads wr wr.heap.size 1 (some (ad.add m)) (part l ⟨m,j,n,sb⟩).length (uP (part l ⟨m,j,n,sb⟩)):=NJ (HL.below Td) Td.size hj0 FU;have Ye:(part l ⟨m,j,n,sb⟩).length=j-m:=KL (s:=⟨m,j,n,sb⟩) hj0 FU;have hpu:xh (part l ⟨m,j,n,sb⟩):=Vh hl;have HC:=X6 (Qr (part l ⟨m,j,n,sb⟩) t (some (ad.add m)) B (c-m) d wr hpu ht (by omega) hrp ((HT.below Td).more Td.size));rw[Ye]at HC;clear Ye hrp hpu;go_wp2_with fail;refine HC.mono ?_;rintro e W1 ⟨rfl,JP⟩;have aaG:=zy.below JP hblt;have hbW:=Cx.trans (JP.mono tH);have hwW:=Td.trans (JP.mono Td.size);have hszW:=hbW.size;have fz1:=aaG.frozen;have e2:=aaG.c5.2.2.1;have hlt1:=aaG.lt;clear fz c0 c1 c2 c3 c4 zy Td;have aam:lq (W1.setCell (wo.heap.size,2) (.int .i64 (lU (oC t (part l ⟨m,j,n,sb⟩)).sum))) wo.heap.size 201 #[m,j,.int .i64 (lU (oC t (part l ⟨m,j,n,sb⟩)).sum),lx,n]:=aaG.lA 2 _;have EV:Below wo.heap.size wo (W1.setCell (wo.heap.size,2) (.int .i64 (lU (oC t (part l ⟨m,j,n,sb⟩)).sum))):=hbW.setCell (p:=(wo.heap.size,2)) (X7 _) _;have Lm:=X6 λ(W:World) (h:Below wo.heap.size wo W)=>lG lV h;have HW:=X6 hw;have hlenw:(lT t l (nQ l m).1).1.length<=1000000:=(by rw[xe];omega);have hfst:(lT t l (nQ l m).1).1.isEmpty=decide ((lT t l (nQ l m).1).1.length=0):=(by cases(lT t l (nQ l m).1).1<;>simp);obtain⟨ob,qM⟩:∃ob,mG (oC t (part l ⟨m,j,n,sb⟩)).sum=ob:=⟨_,rfl⟩;obtain⟨fb,Eo⟩:∃fb,(lT t l (nQ l m).1).2=fb:=⟨_,rfl⟩;by_cases Cj:vW (lT t l (nQ l m).1).1.isEmpty ⟨m,j,n,sb⟩=true
        ·have tC:L8 t l (lT t l (nQ l m).1).1.isEmpty ⟨m,j,n,sb⟩=⟨m,j,lU (oC t (part l ⟨m,j,n,sb⟩)).sum,lU (adv t 32),n⟩:=(by simp[L8,Cj]);have hov:vX t l (lT t l (nQ l m).1).1.isEmpty ⟨m,j,n,sb⟩=(ob || mG (adv t 32)):=(by simp[vX,Cj,qM]);have HM:Hid (na (L8 t l (lT t l (nQ l m).1).1.isEmpty ⟨m,j,n,sb⟩)=[.int .i64 m,.int .i64 j,.int .i64 (lU (oC t (part l ⟨m,j,n,sb⟩)).sum),.int .i64 (lU (adv t 32)),.int .i64 n]):=X6 (by rw[tC];rfl);obtain⟨Jl,he,hz⟩:sb=true/\((n:Int) == 0)=true/\0<(lT t l (nQ l m).1).1.length:=(by rw[hfst]at Cj;simp only[vW,Z3,ZU,aCA,aA6]at Cj;exact⟨Cj.1.1,by simp[Cj.1.2],by omega⟩);obtain⟨wb,Yt⟩:∃wb,mG (adv t 32)=wb:=⟨_,rfl⟩;have HF:Hid (∀nb,nb=(fb || (ob || wb))->nb=((lT t l (nQ l m).1).2 || vX t l (lT t l (nQ l m).1).1.isEmpty ⟨m,j,n,sb⟩)):=X6 (by rintro nb rfl;rw[hov,Eo,Yt]);have hz':decide (0<(lT t l (nQ l m).1).1.length)=true:=YC hz;simp only[Eo,qM];clear tC hov Cj hfst Eo;cases Jl;obtain⟨d0,d1,d2,d3,d4⟩:=aam.c5;have hwS:=HW.trans (EV.mono GA);have Sd:=PJ ht 32;have hltS:=aam.lt;have HR32:=X6 (Lz t B d _ ((HT.below hwS).more hwS.size) 32 (by omega) (by omega));cases ob<;>cases fb<;>cases wb;all_goals
          go_wp2_with fail;refine HR32.mono ?_;rintro e w' ⟨rfl,rfl⟩;go_wp2_with fail;refine(of_big (adv t 32) _ Sd.1 Sd.2).mono ?_;rintro e W2 ⟨bm,bA,bc,bn,rfl,hB3,xQ⟩;go_wp2_with fail;refine(Kq _ 64 (adv t 32) _ (by omega) _ xQ).mono ?_;rintro e W3 ⟨rfl,hB4⟩;rw[Yt];have hB34:=hB3.trans (hB4.mono hB3.size);have hbl3:=aam.below hB34 hltS;have fz3:=hbl3.frozen;have e3:=hbl3.c5.2.2.2.1;have pn:=EV.trans (hB34.mono EV.size);have hblT:lq (W3.setCell (wo.heap.size,3) (.int .i64 (lU (adv t 32)))) wo.heap.size 201 #[m,j,.int .i64 (lU (oC t (part l ⟨m,j,n,true⟩)).sum),.int .i64 (lU (adv t 32)),n]:=hbl3.lA 3 _;have hbT:Below wo.heap.size wo (W3.setCell (wo.heap.size,3) (.int .i64 (lU (adv t 32)))):=pn.setCell (p:=(wo.heap.size,3)) (X7 _) _;obtain⟨t0,t1,t2,t3,t4⟩:=hblT.c5;clear d0 d1 d2 d3 d4 xQ;go_wp2_with (at_builtin;refine tO (m:=1) rfl _ _ rfl AS (Lm.out _ hbT) (YL GA hbT.size) rfl [_,_,_,_,_] rfl (by simp[World.setCell]) (by simp) (by simp[Value.oneCell']) (by omega) (by omega) ?_;intro A' c' w' nZ hB2 hg _);go_roundw;case rel=>exact⟨m+1,by omega,RI.step HR.out (by rw[HM.out];exact nZ) (hB2 _ _ (X7 _) (HW.trans (hbT.mono GA))) (HF.out _ rfl) (by go_num) rfl⟩
          case measure=>simp[intOf];omega
        ·have tC:L8 t l (lT t l (nQ l m).1).1.isEmpty ⟨m,j,n,sb⟩=⟨m,j,lU (oC t (part l ⟨m,j,n,sb⟩)).sum,0,n⟩:=(by simp[L8,Cj]);have hov:vX t l (lT t l (nQ l m).1).1.isEmpty ⟨m,j,n,sb⟩=ob:=(by simp[vX,Cj,qM]);have HM:Hid (na (L8 t l (lT t l (nQ l m).1).1.isEmpty ⟨m,j,n,sb⟩)=[.int .i64 m,.int .i64 j,.int .i64 (lU (oC t (part l ⟨m,j,n,sb⟩)).sum),.int .i64 0,.int .i64 n]):=X6 (by rw[tC];rfl);have Ym:sb=false\/sb=true/\((n:Int) == 0)=false\/sb=true/\((n:Int) == 0)=true/\(lT t l (nQ l m).1).1.length=0:=by
          rw[hfst]at Cj;cases Jl:sb
          ·exact .inl rfl
          ·simp only[vW,Jl,aCK,Z3,ZU,aCA,aA6]at Cj;by_cases h0:n=0
           ·exact .inr (.inr ⟨rfl,by simp[h0],by omega⟩)
           ·exact .inr (.inl ⟨rfl,by simp[h0]⟩)
         have HF:Hid (∀nb,nb=(fb || ob)->nb=((lT t l (nQ l m).1).2 || vX t l (lT t l (nQ l m).1).1.isEmpty ⟨m,j,n,sb⟩)):=X6 (by rintro nb rfl;rw[hov,Eo]);obtain⟨d0,d1,d2,d3,d4⟩:=aam.c5;simp only[Eo,qM];clear tC hov Cj hfst Eo;rcases Ym with Jl | ⟨Jl,he⟩ | ⟨Jl,he,hz⟩
         ·cases Jl
          cases ob<;>cases fb
          all_goals
           go_wp2_with (at_builtin;refine tO (m:=1) rfl _ _ rfl AS (Lm.out _ EV) (YL GA EV.size) rfl [_,_,_,_,_] rfl (by simp[World.setCell]) (by simp) (by simp[Value.oneCell']) (by omega) (by omega) ?_;intro A' c' w' nZ hB2 hg _);go_roundw;case rel=>exact⟨m+1,by omega,RI.step HR.out (by rw[HM.out];exact nZ) (hB2 _ _ (X7 _) (HW.trans (EV.mono GA))) (HF.out _ rfl) (by go_num) rfl⟩
           case measure=>simp[intOf];omega
         ·cases Jl
          cases ob<;>cases fb
          all_goals
           go_wp2_with (at_builtin;refine tO (m:=1) rfl _ _ rfl AS (Lm.out _ EV) (YL GA EV.size) rfl [_,_,_,_,_] rfl (by simp[World.setCell]) (by simp) (by simp[Value.oneCell']) (by omega) (by omega) ?_;intro A' c' w' nZ hB2 hg _);go_roundw;case rel=>exact⟨m+1,by omega,RI.step HR.out (by rw[HM.out];exact nZ) (hB2 _ _ (X7 _) (HW.trans (EV.mono GA))) (HF.out _ rfl) (by go_num) rfl⟩
           case measure=>simp[intOf];omega
         ·cases Jl
          have hz':decide (0<(lT t l (nQ l m).1).1.length)=false:=X9 (by omega);have hlen':=hlenw;clear hz;cases ob<;>cases fb;all_goals
           go_wp2_with (at_builtin;refine tO (m:=1) rfl _ _ rfl AS (Lm.out _ EV) (YL GA EV.size) rfl [_,_,_,_,_] rfl (by simp[World.setCell]) (by simp) (by simp[Value.oneCell']) (by omega) (by omega) ?_;intro A' c' w' nZ hB2 hg _);go_roundw;case rel=>exact⟨m+1,by omega,RI.step HR.out (by rw[HM.out];exact nZ) (hB2 _ _ (X7 _) (HW.trans (EV.mono GA))) (HF.out _ rfl) (by go_num) rfl⟩
           case measure=>simp[intOf];omega
     ·have Sm:=zu hL;have FU:=Gt l (j+1);rw[Sm]at FU;rw[hjE]at Sm FU;have HM:Hid (((wr.setCell (wo.heap.size,1) (.int .i64 (j+1))).cell? (wo.heap.size,1)).getD (.int .i64 0)= .int .i64 (j+1)/\(wr.cell? (wo.heap.size,1)).getD (.int .i64 0)= .int .i64 j):=X6 ⟨by rw[SI.cell 1];rfl,by rw[c1];rfl⟩;have HJ:=X6 Sm;clear Sm hjE;go_wp2_with fail;refine(LET _ Td j (by omega)).mono ?_;rintro e w' ⟨rfl,rfl⟩;rw[hL];go_wp2_with fail;go_roundw;case rel=>exact⟨j+1,by omega,by omega,HJ.out,SI,Cx.setCell (p:=(wo.heap.size,1)) (X7 _) _⟩
      case measure=>rw[HM.1,HM.2];simp[intOf];omega
  ·obtain rfl:k=l.length:=(by omega);have HS:=X6 (Hz l);rw[Hz]at lV;go_wp2_with fail;go_ret2;exact⟨_,by rw[HS.out];rfl,lV,hw⟩
end
end Go.Proofs.YtjhingednpjogaaGreat
