/- Lemmas for ValidRoom; laid together by a program. -/
import Derived.Test.YtjhingednpjogaaGreatQi
import Derived.Test.YtjhingednpjogaaGreatKpl
import Derived.Test.YtjhingednpjogaaGreatTrh
set_option linter.all false
set_option maxRecDepth 100000
set_option maxHeartbeats 8000000
open Go.RowKit
namespace Go.Proofs.YtjhingednpjogaaGreat
open Go.Proofs.Tryz
section
attribute [local go_sem] lp
theorem yD(w:World)(g n:Nat)(hn:n<=65536)(hb:pq w g n):Calls prog 37 #[.slice g n n] w λe w'=>(∃x:Int,e= .returned x)/\Below w.heap.size w w':=by
 have HB:=X6 hb;clear hb;go_enter func37,ntmps37;go_wp2_with fail;go_loopw [3] (λiv wr=>∃i:Nat,i<=n/\iv= .int .i64 (i:Int)/\Hid (w=wr)) (λiv _=>n-(intOf iv).toNat);case atStart=>exact⟨0,by omega,rfl,X6 rfl⟩
 case round=>
  obtain⟨i,hi,rfl,hw⟩:=hrel;obtain rfl:=hw.out;clear hw;have Vp:IntKind.i64.wrap ((i:Int)+1)=(i:Int)+1:=YG _ ⟨by omega,by omega⟩;by_cases Br:i<n
  ·have d0:decide ((i:Int)<(n:Int))=true:=YC (by omega);have pJ:decide (i<n)=true:=YC Br;have wQ:(i:Int)<(n:Int):=(by omega);obtain⟨b,hc⟩:=HB.at_ Br;have hl:=HB.lt;cases b
   ·go_wp2_with fail;go_roundw;case rel=>exact⟨i+1,by omega,by go_num,by first | exact X6 rfl | exact X6 trivial⟩
    case measure=>simp[intOf];omega
   ·go_wp2_with fail;go_ret;exact⟨⟨_,rfl⟩,ZN _ _⟩
  ·have d0:decide ((i:Int)<(n:Int))=false:=X9 (by omega);have pJ:decide (i<n)=false:=X9 Br;go_wp2_with fail;go_ret;exact⟨⟨_,rfl⟩,ZN _ _⟩
def yx(W:World)(g n:Nat):Prop:=∃cs:List Cn,cs.length=n/\lq W g 38 (ly cs).toArray/\∀x∈cs,JB x
theorem Jm(l:List Cn):∀(k i:Nat) (hk:k<l.length),i<4->(ly l)[k*4+i]? =(mP l[k])[i]?:=by
 induction l with
 | nil=>intro k i hk;simp at hk
 | cons a t ih=>
  intro k i hk hi;have hc:ly (a::t)=mP a++ly t:=by simp[ly]
  have hl:(mP a).length=4:=rfl;rw[hc];rcases k with _ | k
  ·rw[YN (by omega)];simp
  ·rw[YQ (by omega),show(k+1)*4+i-(mP a).length=k*4+i by omega,ih k i (by simpa using hk) hi];simp
theorem WB(l:List Cn)(x:Cn):∀(k:Nat) (hk:k<l.length),((((ly l).set (k*4) (.int .i64 x.least)).set (k*4+1) (.int .i64 x.lC)).set (k*4+2) (.int .i64 x.ol)).set (k*4+3) (.int .i64 x.og)=ly (l.set k x):=by
 induction l with
 | nil=>intro k hk;simp at hk
 | cons a t ih=>
  intro k hk;have hc:∀a t,ly (a::t)=mP a++ly t:=λa t=>by simp[ly]
  rcases k with _ | k
  ·simp[hc,mP]
  ·have e:∀i,(k+1)*4+i=k*4+i+4:=λi=>(by omega);rw[hc,show(k+1)*4=k*4+4 by omega,show k*4+4+1=k*4+1+4 by omega,show k*4+4+2=k*4+2+4 by omega,show k*4+4+3=k*4+3+4 by omega];simp only[mP,aCI,aBZ,YE];rw[ih k (by simpa using hk)];simp[hc,mP]
section
variable{W W':World}{g n:Nat}
theorem yx.lt(h:yx W g n):g<W.heap.size:=by obtain⟨cs,_,h1,_⟩:=h;exact h1.lt
theorem yx.frozen(h:yx W g n)(k:Nat):W.frozen? (g,k)=false:=by obtain⟨cs,_,h1,_⟩:=h;exact h1.frozen k
theorem yx.at_(h:yx W g n){k:Nat}(hk:k<n):∃x:Cn,JB x/\W.cell? (g,k*4)=x.least/\W.cell? (g,k*4+1)=x.lC/\W.cell? (g,k*4+2)=x.ol/\W.cell? (g,k*4+3)=x.og:=by
 obtain⟨cs,h1,h2,h3⟩:=h;have SU:k<cs.length:=by omega
 have hg:∀i,i<4->∀u,(mP cs[k])[i]? =some u->W.cell? ⟨g,k*4+i,none⟩=some u:=λi hi u hu=>h2.get _ (by rw[YR,Jm cs k i SU hi];exact hu);exact⟨cs[k],h3 _ (YJ SU),hg 0 (by omega) _ rfl,hg 1 (by omega) _ rfl,hg 2 (by omega) _ rfl,hg 3 (by omega) _ rfl⟩
theorem yx.below{B:Nat}(h:yx W g n)(hb:Below B W W')(hg:g<B):yx W' g n:=by obtain⟨cs,h1,h2,h3⟩:=h;exact⟨cs,h1,h2.below hb hg,h3⟩
theorem yx.lQ(h:yx W g n){p:Addr}(hp:g≠p.block)(u:Value):yx (W.setCell p u) g n:=by obtain⟨cs,h1,h2,h3⟩:=h;exact⟨cs,h1,h2.lQ hp u,h3⟩
theorem yx.new(W:World)(n g:Nat)(hg:g=W.heap.size):yx (W.alloc (.cells (ly (List.replicate n yS)).toArray 38)) g n:=
 ⟨_,by simp,lq.at_ _ _ _ hg,λx hx=>by rw[aBY hx];exact⟨by simp[yS],by simp[yS],by simp[yS],by simp[yS]⟩⟩
theorem yx.FD(h:yx W g n){k:Nat}(hk:k<n){x:Cn}(hx:JB x):yx ((((W.setCell (g,k*4) x.least).setCell (g,k*4+1) x.lC).setCell (g,k*4+2) x.ol).setCell (g,k*4+3) x.og) g n:=by
 obtain⟨cs,h1,h2,h3⟩:=h;have h4:=(((h2.lA (k*4) x.least).lA (k*4+1) x.lC).lA (k*4+2) x.ol).lA (k*4+3) x.og;simp only[X8]at h4;rw[WB cs x k (by omega)]at h4;refine⟨_,by simpa using h1,h4,λy hy=>?_⟩;rcases aCY hy with h5 | h5
 ·exact h3 y h5
 ·rw[h5];exact hx
theorem yx.reads(h:yx W g n):∃cs:List Cn,cs.length=n/\Reads W W.heap.size 4 (some ⟨g,0,none⟩) n (ly cs)/\∀x∈cs,JB x:=by
 obtain⟨cs,h1,h2,h3⟩:=h;have hlen:(ly cs).length=cs.length*4:=by
  clear h1 h2 h3;induction cs with
  | nil=>rfl
  | cons a t ih=>rw[show ly (a::t)=mP a++ly t by simp[ly],YM,ih,ZA];simp[mP];omega
 refine⟨cs,h1,⟨by rw[hlen,h1],λ_=>⟨_,rfl,h2.lt,λj u hu=>?_⟩⟩,h3⟩;have ha:(⟨g,0,none⟩:Addr).add j=⟨g,j,none⟩:=by unfold Addr.add;split<;>simp_all
 rw[ha];exact h2.get j (by simpa using hu)
end
structure QI(l:List Nd)(adv:List Int)(A A2:Option Addr)(w:World):Prop where
 n:0<l.length/\l.length<=1000
 tr:P7 w w.heap.size A A2 l adv
 qt:QTr l
 un:∀b,b<l.length->Pd l (oF l b)<=60000
 u1:∀x∈l,x.s.mu.length<=60000
 adv0:∀x∈adv,0<=x
 sb:∀x∈l,x.s.kind≠3->zp x.s
theorem QI.at_{l:List Nd}{adv:List Int}{A A2:Option Addr}{w W:World}(h:QI l adv A A2 w)(hb:Below w.heap.size w W):QI l adv A A2 W:=⟨h.n,(h.tr.below hb).more hb.size,h.qt,h.un,h.u1,h.adv0,h.sb⟩
structure Ij(w2:World)(go gf n:Nat)(W:World):Prop where
 b:Below w2.heap.size w2 W
 o:yx W go n
 f:pq W gf n
 og:w2.heap.size<=go
 fg:w2.heap.size<=gf
theorem Ij.lR{w2 W W':World}{go gf n:Nat}(h:Ij w2 go gf n W)(hb:Below W.heap.size W W'):Ij w2 go gf n W':=⟨h.b.trans (hb.mono h.b.size),h.o.below hb h.o.lt,h.f.below hb h.f.lt,h.og,h.fg⟩
theorem Ij.ne{w2 W:World}{go gf n:Nat}(h:Ij w2 go gf n W):go≠gf:=by obtain⟨cs,_,h1,_⟩:=h.o;obtain⟨bs,h2,_⟩:=h.f;exact h1.se h2 (by decide)
theorem Ij.FD{w2 W:World}{go gf n:Nat}(h:Ij w2 go gf n W){k:Nat}(hk:k<n){x:Cn}(hx:JB x):Ij w2 go gf n ((((W.setCell (go,k*4) x.least).setCell (go,k*4+1) x.lC).setCell (go,k*4+2) x.ol).setCell (go,k*4+3) x.og):=
 ⟨(((h.b.setCell (p:=(go,k*4)) h.og _).setCell (p:=(go,k*4+1)) h.og _).setCell (p:=(go,k*4+2)) h.og _).setCell (p:=(go,k*4+3)) h.og _,h.o.FD hk hx,(((h.f.lQ (p:=(go,k*4)) h.ne.symm _).lQ (p:=(go,k*4+1)) h.ne.symm _).lQ (p:=(go,k*4+2)) h.ne.symm _).lQ (p:=(go,k*4+3)) h.ne.symm _,h.og,h.fg⟩
theorem Ij.there4{w2 W:World}{go gf n:Nat}(h:Ij w2 go gf n W){k:Nat}(hk:k<n):W.there go (k*4) 4:=by
 obtain⟨cs,h1,h2,-⟩:=h.o;have hlen:∀cs:List Cn,(ly cs).length=cs.length*4:=λcs=>by
  induction cs with
  | nil=>rfl
  | cons a t ih=>rw[show ly (a::t)=mP a++ly t by simp[ly],YM,ih,ZA];simp[mP];omega
 exact nE h2 (by rw[Z1,hlen,h1];omega)
theorem Ij.sets4{w2 W:World}{go gf n:Nat}(h:Ij w2 go gf n W){k:Nat}(hk:k<n){x:Cn}(hx:JB x):Ij w2 go gf n (W.setCells go (k*4) (mP x)):=h.FD hk hx
theorem wL{P:Program}{o:Oper}{a:Act}{W:World}{ops:Array Oper}{K:Act->World->Prop}{Q:Exit->Act->World->Prop}{E:Prop}(tZ:o.guard=none)(ty:TypeId)(x y:Operand)(ho:o.op= .store ty x y)(g off:Nat)(cs:List Value)(hx:a.eval x= .pointer (some ⟨g,off,none⟩))(hy:a.eval y= .agg cs.toArray)(ht:W.there g off cs.length)(hi:(P.info? ty).map (·.size)=some cs.length)(h1:cs.toArray.all (·.oneCell')=true)(h:K (a.put o.dst undef) (W.setCells g off cs)): if Region.wanted o (yielded ops a.tmps)=true then Oper.wp P o a W K Q else E:=by rw[YP (by simp[Region.wanted,tZ])];unfold Oper.wp;rw[oG ty x y ho g off cs hx hy W ht hi h1];exact h
theorem Ij.MH{w2 W:World}{go gf n:Nat}(h:Ij w2 go gf n W)(k:Nat)(v:Bool):Ij w2 go gf n (W.setCell (gf,k) (.bool v)):=⟨h.b.setCell (p:=(gf,k)) h.fg _,h.o.lQ (p:=(gf,k)) h.ne _,h.f.lA k v,h.og,h.fg⟩
theorem MB(l:List Nd)(adv:List Int)(ks:List Int)(got:List Cn)(A A2 Ak Ag:Option Addr)(c c2 ck cg:Nat)(view:Int)(w:World)(hL:QI l adv A A2 w)(i:Nat)(hi:i<l.length)(hk:Reads w w.heap.size 1 Ak ks.length (lY ks))(qA:ks=oF l i)(hg:Reads w w.heap.size 4 Ag got.length (ly got))(BR:∀x∈got,JB x): Calls prog 36 #[.agg #[.slice A l.length c,.slice A2 adv.length c2,view],.int .i64 (i:Int),.slice Ak ks.length ck,.slice Ag got.length cg] w λe w'=>(∃x1 x2 x3 x4 be,e= .returned (.tuple #[.agg #[.int .i64 x1,.int .i64 x2,.int .i64 x3,.int .i64 x4],.bool be])/\JB ⟨x1,x2,x3,x4⟩)/\Below w.heap.size w w':=by have hn:=hL.n;have nF:=vj l i;refine(R0 (l:=l) (adv:=adv) (ks:=ks) (got:=got) (A:=A) (A2:=A2) (Ak:=Ak) (Ag:=Ag) (c:=c) (c2:=c2) (ck:=ck) (cg:=cg) (view:=view) (w:=w) i hi hL.tr hk (λk hk=>by rw[qA]at hk;obtain⟨q,h1,h2,_⟩:=tu hk;omega) (by rw[qA];omega) (by rw[qA];have:=hL.un i hi;omega) (λx hx=>by have:=hL.u1 x hx;omega) hL.adv0 hg BR (λh=>hL.sb _ (YJ hi) h)).mono ?_;intro e w' h;obtain⟨⟨x,be,rfl,hx⟩,hb⟩:=h;exact⟨⟨x.least,x.lC,x.ol,x.og,be,rfl,hx⟩,hb⟩
theorem Zo(l:List Nd)(adv:List Int)(A A2:Option Addr)(c c2:Nat)(view:Int)(w:World)(hL:QI l adv A A2 w): Calls prog 19 #[.agg #[.slice A l.length c,.slice A2 adv.length c2,view]] w λe w'=>(∃(g:Nat) (x:Int),e= .returned (.tuple #[.slice g l.length l.length,x])/\yx w' g l.length/\w.heap.size<=g)/\Below w.heap.size w w':=by
 have HL:=X6 (λW (hb:Below w.heap.size w W)=>hL.at_ hb);have HN:=X6 hL.n;have HKI:=X6 (λW (hb:Below w.heap.size w W)=>Ey l A A2 c adv.length c2 view W (by have:=hL.n;omega) (hL.at_ hb).tr.nd);obtain⟨w1,mW⟩:∃W,W=w.alloc (.cells #[.slice A l.length c,.slice A2 adv.length c2,view] 25):=⟨_,rfl⟩;have oW:Hid (lq w1 w.heap.size 25 #[.slice A l.length c,.slice A2 adv.length c2,view]):=X6 (by rw[mW];exact lq.new _ _ _);have mA:Hid (Below w.heap.size w w1):=X6 (by rw[mW];exact bA);clear hL;go_enter func19,ntmps19;go_upto_region 1 with(fail)
 rw[<-mW];clear mW;obtain⟨t0,t1,t2⟩:=oW.c3;have tl:=oW.lt;go_upto_region 2 with(go_at_call 30;refine(HKI.out w1 mA.out).mono ?_;rintro e w2 ⟨⟨gk,rfl,Hj⟩,mr⟩;have HKA:=X6 Hj;have nx:=X6 (mA.trans (mr.mono mA.size));have vZ:=X6 (oW.below mr oW.lt);clear Hj mr)
 clear t0 t1 t2 tl oW mA HKI;obtain⟨t0,t1,t2⟩:=vZ.c3;have tl:=vZ.lt;have xG:l.length<=1000000:=by have:=HN.out;omega
 have JC:=AT l.length xG w2;go_upto_region 3 with(fail)
 have A0:Hid (yx (w2.alloc (.cells (ly (List.replicate l.length yS)).toArray 38)) w2.heap.size l.length/\Below w2.heap.size w2 (w2.alloc (.cells (ly (List.replicate l.length yS)).toArray 38))):=X6 ⟨yx.new _ _ _ rfl,bA⟩;obtain⟨go,XS⟩:∃g,g=w2.heap.size:=⟨_,rfl⟩;have Lv:Hid (w2.heap.size<=go):=X6 (by omega);rw[<-XS];rw[<-XS]at A0;clear JC t0 t1 t2 tl;generalize World.alloc w2 _=w3 at A0⊢;have BE:=X6 (vZ.below (show Below w2.heap.size w2 w3 by rw[<-XS];exact A0.2) vZ.lt);obtain⟨t0,t1,t2⟩:=BE.c3;have tl:=BE.lt;have NV:=uI l.length xG w3;go_upto_region 4 with(fail)
 have Ic:Hid (Ij w2 go w3.heap.size l.length (w3.alloc (.cells (wm l.length).toArray 4))):=X6 (by
  have hb:Below w3.heap.size w3 (w3.alloc (.cells (wm l.length).toArray 4)):=bA;have h3:Below w2.heap.size w2 w3:=by rw[<-XS];exact A0.2
  exact⟨h3.trans (hb.mono h3.size),A0.1.below hb A0.1.lt,pq.new _ _ _ rfl,Lv.out,h3.size⟩)
 obtain⟨gf,Pm⟩:∃g,g=w3.heap.size:=⟨_,rfl⟩;rw[<-Pm];rw[<-Pm]at Ic;clear NV t0 t1 t2 tl Pm XS A0 BE Lv;generalize World.alloc w3 _=w4 at Ic⊢;have pD:Hid (∀W,Below w2.heap.size w2 W->lq W w.heap.size 25 #[.slice A l.length c,.slice A2 adv.length c2,view]/\Below w.heap.size w W/\p9 W w1.heap.size w2.heap.size gk l):=X6 (λW hb=>⟨vZ.below hb vZ.lt,nx.trans (hb.mono nx.size),HKA.below hb⟩);clear vZ nx HKA;obtain⟨t0,-,-⟩:=(pD.out w4 Ic.b).1.c3;have tl:=(pD.out w4 Ic.b).1.lt;have hws:IntKind.i64.wrap ((l.length:Int)-1)=(l.length:Int)-1:=YG _ ⟨by omega,by omega⟩;go_upto_region 5 with(fail);clear t0 tl;go_loopw [7] (λiv wr=>∃j:Nat,j<=l.length/\iv= .int .i64 ((j:Int)-1)/\Hid (Ij w2 go gf l.length wr)) (λiv _=>((intOf iv)+1).toNat);case atStart=>exact⟨l.length,by omega,rfl,Ic⟩
 case round=>
  clear Ic;obtain⟨j,hj,rfl,HU⟩:=hrel;rcases j with _ | i
  ·have d0:decide ((0:Int)<=(((0:Nat):Int)-1))=false:=rfl;go_wp2_with (go_at_call 37;refine(yD wr gf l.length (by have:=HN.out;omega) HU.f).mono ?_;rintro e w9 ⟨⟨x,rfl⟩,mH⟩;have HU9:=X6 (HU.lR mH);clear mH);go_ret2;exact⟨⟨go,_,rfl,HU9.o,by have h1:=HU9.og;have h2:=(pD.out w2 (ZN _ _)).2.1.size;omega⟩,(pD.out _ HU9.b).2.1⟩
  have tQ:i<l.length:=by omega
  have wQ:(i:Int)<(l.length:Int):=by omega
  have hi1:(((i+1:Nat):Int)-1)=(i:Int):=by omega
  have hwm:IntKind.i64.wrap ((i:Int)-1)=(i:Int)-1:=YG _ ⟨by omega,by omega⟩;rw[hi1];have Es:=X6 tQ;clear hi1;obtain⟨ks,qA⟩:∃ks,ks=oF l i:=⟨_,rfl⟩;have JJ:=X6 qA;have Hj:=(pD.out w2 (ZN _ _)).2.2;obtain⟨Ak,ck,JX,-,FF,-⟩:=Hj.at_ i tQ;rw[<-qA]at JX FF;have Je:=Hj.lt;have BA:Hid (∀W,Below w2.heap.size w2 W->W.cell? (gk,i)=some (.slice Ak ks.length ck)/\gk<W.heap.size/\Reads W W.heap.size 1 Ak ks.length (lY ks)):=X6 (λW hb=>⟨(hb.cell (p:=(gk,i)) Je).trans JX,YK Je hb.size,(FF.below hb).more hb.size⟩);have Hb:Hid (ks.length<=1000):=X6 (by rw[qA];have:=vj l i;have:=HN.out;omega);have S6:Hid (∀k∈ks,∃q:Nat,k=(q:Int)/\q<l.length):=X6 (λk hk=>by rw[qA]at hk;obtain⟨q,h1,h2,_⟩:=tu hk;exact⟨q,h1,h2⟩);clear qA Hj JX FF Je tQ;go_wp2_with fail;go_loopw [8,9] (λv kv V=>∃(m:Nat) (Ag:Option Addr) (cg:Nat) (got:List Cn),m<=ks.length/\v= .slice Ag got.length cg/\kv= .int .i64 (m:Int)/\Hid (got.length=m/\Below wr.heap.size wr V/\V.ownsRow wr.heap.size 38 4 (.slice Ag got.length cg) got.length (ly got)/\∀x∈got,JB x)) (λ_ kv _=>ks.length-(intOf kv).toNat);case atStart=>exact⟨0,none,0,[],by omega,rfl,rfl,X6 ⟨rfl,ZN _ _,YV _ _ _ _,by simp⟩⟩
  case round=>
   obtain⟨m,Ag,cg,got,hm,rfl,rfl,HG⟩:=hrel;have C2:IntKind.i64.wrap ((m:Int)+1)=(m:Int)+1:=YG _ ⟨by omega,by have:=Hb.out;omega⟩;have B9:=X6 (HU.lR HG.2.1);obtain⟨k0,kl,FF⟩:=BA.out _ B9.b;by_cases wF:m<ks.length;rotate_left
   ·have f0:decide ((m:Int)<(ks.length:Int))=false:=X9 (by omega);have MO:decide (m<ks.length)=false:=X9 wF;as_aux_lemma=>
    go_upto_region 12 with(fail);clear k0 kl FF f0 MO;have NC:=X6 (lG HG.2.2.1 (ZN _ _).drew);refine wp_region_held_drew (S:=λV=>Ij w2 go gf l.length V) (by kernel_rfl) (B9.lR (ZN _ _).drew) (λhS=>?_);refine nk [0,1,2,3,4,5,6,7,8,9,10] ?_;iterate 11
     refine tk hS (y:=by intro W' lr;obtain⟨t0,t1,t2⟩:=(pD.out W' lr.b).1.c3;have tl:=(pD.out W' lr.b).1.lt;obtain⟨k0,kl,-⟩:=BA.out _ lr.b;go_simp;rfl) (h:=?_)
    refine np ?_;refine mV 11 (λK hK=>?_);go_simp;refine(MB l adv ks got A A2 Ak Ag c c2 ck cg view _ (HL.out _ (pD.out _ hS.b).2.1) i Es.out (BA.out _ hS.b).2.2 JJ.out (Reads.mo NC.out) HG.2.2.2).mono ?_;rintro e w9 ⟨⟨x1,x2,x3,x4,be,rfl,hx⟩,mH⟩;have HXQ:=X6 hx;clear hx;refine ky hK (hS.lR mH) λhS=>?_;clear hK;refine nk [12,13,14,15] ?_;iterate 4
     refine tk hS (y:=by intro W' lr;obtain⟨t0,t1,t2⟩:=(pD.out W' lr.b).1.c3;have tl:=(pD.out W' lr.b).1.lt;obtain⟨k0,kl,-⟩:=BA.out _ lr.b;go_simp;rfl) (h:=?_)
    refine np ?_;refine mV 16 (λK hK=>?_);refine wL rfl 38 (.tmp 65) (.tmp 63) rfl go (i*4) [.int .i64 x1,.int .i64 x2,.int .i64 x3,.int .i64 x4] (by go_simp) rfl (hS.there4 Es.out) (by kernel_rfl) (by simp[Value.oneCell']) ?_;refine ky hK (hS.sets4 (x:=⟨x1,x2,x3,x4⟩) Es.out HXQ.out) λhS=>?_;clear hK;refine nk [17] ?_;refine tk hS (y:=by intro W' lr;obtain⟨t0,t1,t2⟩:=(pD.out W' lr.b).1.c3;have tl:=(pD.out W' lr.b).1.lt;obtain⟨k0,kl,-⟩:=BA.out _ lr.b;go_simp;rfl) (h:=?_);refine np ?_;refine mV 18 (λK hK=>?_);obtain⟨yb,y0⟩:=hS.f.at_ Es.out;have yl:=hS.f.lt;have yf:=hS.f.frozen;go_simp;clear y0 yl yf;refine ky hK (hS.MH i be) λhS=>?_;clear hK;refine nR ?_;have XA:=X6 hS;clear hS;go_wp2_with fail;go_roundw;case rel=>exact⟨i,by omega,by go_num,XA⟩
    case measure=>simp[intOf]
   have f0:decide ((m:Int)<(ks.length:Int))=true:=YC (by omega);have MO:decide (m<ks.length)=true:=YC wF;have hmi:(m:Int)<(ks.length:Int):=(by omega);obtain⟨CA,u,rfl,VA,hx,LZ⟩:=FF.at_ wF;obtain⟨q,yi,pW⟩:=S6.out ks[m] (YJ wF);have hu:u= .int .i64 (q:Int):=(by rw[<-yi];simpa[lY,wF]using hx.symm);subst hu;have KQ:(q:Int)<(l.length:Int):=(by omega);obtain⟨X,hXQ,x0,x1,x2,x3⟩:=B9.o.at_ pW;have HXQ:=X6 hXQ;have ol:=B9.o.lt;have oA:got.length+1<=4294967296:=(by have h1:=HG.1;have h2:=Hb.out;omega);clear hx yi hXQ;go_wp2_with (at_builtin;refine lM (m:=1) rfl _ _ rfl yk HG.2.2.1 HG.2.1.size rfl [.int .i64 X.least,.int .i64 X.lC,.int .i64 X.ol,.int .i64 X.og] rfl rfl (by simp[Value.oneCell']) oA (by omega) ?_;intro A9 c9 w6 mF uK oO pa;have zq:=X6 (And.intro (HG.2.1.grown oO HG.2.1.size (λg e=>(HG.2.2.1.lt g e).1)) mF);clear mF uK oO pa);go_roundw;case rel=>exact⟨m+1,A9,c9,got++[X],by omega,by rw[YM];rfl,by go_num,X6 ⟨by have:=HG.1;simp;omega,zq.1,by rw[YM,show ly (got++[X])=ly got++mP X by simp[ly]];exact zq.2,λx hx=>by
    rcases YW.1 hx with h | h
    ·exact HG.2.2.2 x h
    ·simp only[Y7,ZD,DA]at h;subst h;exact HXQ.out⟩⟩
   case measure=>simp[intOf];omega
end
section
attribute [local go_sem] lp
def Be(W:World)(g n:Nat):Prop:=∃p:Nat->Int×Int×Int,lq W g 40 (ow p n).toArray/\∀k,CB (p k).1
section
variable{W W':World}{g n:Nat}
theorem Be.lt(h:Be W g n):g<W.heap.size:=by obtain⟨p,h1,_⟩:=h;exact h1.lt
theorem Be.frozen(h:Be W g n)(k:Nat):W.frozen? (g,k)=false:=by obtain⟨p,h1,_⟩:=h;exact h1.frozen k
theorem Be.at_(h:Be W g n){k:Nat}(hk:k<n):∃x y z:Int,CB x/\W.cell? (g,k*3)=x/\W.cell? (g,k*3+1)=y/\W.cell? (g,k*3+2)=z:=by obtain⟨p,h1,h2⟩:=h;exact⟨_,_,_,h2 k,h1.get _ (CK p hk),h1.get _ (CW p hk),h1.get _ (C1 p hk)⟩
theorem Be.below{B:Nat}(h:Be W g n)(hb:Below B W W')(hg:g<B):Be W' g n:=by obtain⟨p,h1,h2⟩:=h;exact⟨p,h1.below hb hg,h2⟩
theorem Be.lQ(h:Be W g n){p:Addr}(hp:g≠p.block)(u:Value):Be (W.setCell p u) g n:=by obtain⟨q,h1,h2⟩:=h;exact⟨q,h1.lQ hp u,h2⟩
theorem Be.new(W:World)(n g:Nat)(hg:g=W.heap.size):Be (W.alloc (.cells (ow (λ_=>(0,0,0)) n).toArray 40)) g n:=⟨_,lq.at_ _ _ _ hg,λ_=>⟨by decide⟩⟩
theorem Be.EU(h:Be W g n){k:Nat}(hk:k<n){x:Int}(hx:CB x)(y z:Int):Be (((W.setCell (g,k*3) x).setCell (g,k*3+1) y).setCell (g,k*3+2) z) g n:=by
 obtain⟨p,h1,h2⟩:=h;have h3:=((h1.lA (k*3) x).lA (k*3+1) y).lA (k*3+2) z;rw[Lf p n k x y z hk]at h3;refine⟨_,h3,λj=>?_⟩;unfold Rt
 split
 ·exact hx
 ·exact h2 j
theorem Wr(p:Nat->Int×Int×Int)(n:Nat):ow p n=nC ((List.range n).map λi=>⟨(p i).1,(p i).2.1,(p i).2.2⟩):=by unfold ow nC sE;rw[List.flatMap_map]
theorem Be.reads(h:Be W g n):∃us:List Ft,us.length=n/\Reads W W.heap.size 3 (some ⟨g,0,none⟩) n (nC us)/\∀u∈us,CB u.w:=by
 obtain⟨p,h1,h2⟩:=h;refine⟨(List.range n).map λi=>⟨(p i).1,(p i).2.1,(p i).2.2⟩,by simp,?_,λu hu=>?_⟩
 ·rw[<-Wr];refine⟨by rw[qC],λ_=>⟨_,rfl,h1.lt,λj u hu=>?_⟩⟩;have ha:(⟨g,0,none⟩:Addr).add j=⟨g,j,none⟩:=by unfold Addr.add;split<;>simp_all
  rw[ha];exact h1.get j (by simpa using hu)
 ·obtain⟨i,_,rfl⟩:=Z7.1 hu;exact h2 i
end
structure DwH(l:List Nd)(view:Int):Prop where
 x:∀y∈l,y.s.kind≠3->StX y.s
 f:∀i (hi:i<l.length),l[i].s.kind=2->∀k∈oF l i,(sD l k).kind≠3
 v:CB view
 z:∀h:0<l.length,l[0].s.kind≠3
theorem StX.wq{s:me}(h:StX s):P3 s:=⟨h.m.m1,h.m.m3,h.m.w,h.m.mz,h.m.my,h.m.b⟩
theorem VQ{l:List Nd}{q:Nat}(hq:q<l.length):sD l (q:Int)=l[q].s:=by unfold sD;rw[ZM,YH hq];rfl
theorem Kw(l:List Nd)(view:Int)(hD:DwH l view)(i:Nat)(hi:i<l.length)(zv:l.length<=1000)(A A2 Ak Ag:Option Addr)(c m c2 ck cg:Nat)(u1 u2 u3:Int)(ks:List Int)(qA:ks=oF l i)(got:List Cn)(w:World) (hr:Reads w w.heap.size 44 A l.length (lI l)) (huv:∀x∈l,∃Au nu cu,x.s.uv= .slice Au nu cu) (hk:Reads w w.heap.size 1 Ak ks.length (lY ks)) (hg:Reads w w.heap.size 4 Ag got.length (ly got)) (hc:CB u1) (hx:∀x∈got,JB x): Calls prog 48 #[.agg #[.slice A l.length c,.slice A2 m c2,view],.int .i64 (i:Int),.agg #[u1,u2,u3],.slice Ak ks.length ck,.slice Ag got.length cg] w λe w'=> (∃(Au:Option Addr) (cu:Nat) (Ab:Option Addr) (cb:Nat) (p:Nat->Int×Int×Int) (q:Nat->Bool),e= .returned (.tuple #[.slice Au ks.length cu,.slice Ab ks.length cb])/\Reads w' w'.heap.size 3 Au ks.length (ow p ks.length)/\Reads w' w'.heap.size 1 Ab ks.length (oH q ks.length)/\(∀k,CB (p k).1)/\(∀ad,Au=some ad->w.heap.size<=ad.block)/\∀ad,Ab=some ad->w.heap.size<=ad.block)/\Below w.heap.size w w':=by
 have AQ:∀k∈ks,∃q:Nat,∃hq:q<l.length,k=(q:Int)/\sD l k=l[q].s:=λk hk=>by rw[qA]at hk;obtain⟨q,h1,h2,_⟩:=tu hk;subst h1;exact⟨q,h2,rfl,VQ h2⟩
 have hlen:ks.length<=1000:=by rw[qA];have:=vj l i;omega
 refine(R7 l i hi (by omega) A A2 Ak Ag c m c2 ck cg view u1 u2 u3 ks got w hr huv l[i].s.kind (by omega) rfl hk (λk hk=>by obtain⟨q,h1,h2,_⟩:=AQ k hk;omega) (by omega) hg hc (λ_ k hk h3=>by
  obtain⟨q,h1,h2,h4⟩:=AQ k hk;rw[h4]at h3⊢;exact(hD.x _ (YJ h1) h3).wq) (λh2=>⟨hlen,λk hk=>by
  obtain⟨q,h1,h4,h5⟩:=AQ k hk;have h3:=hD.f i hi h2 k (by rw[<-qA];exact hk);rw[h5]at h3⊢;exact hD.x _ (YJ h1) h3⟩) (λx hm=>⟨(hx x hm).least,(hx x hm).lC⟩)).mono ?_
 intro e w' h;by_cases h2:l[i].s.kind=2
 ·obtain⟨⟨Au,cu,Ab,cb,he,h3,h4⟩,hb,hf⟩:=h.2 h2;exact⟨⟨Au,cu,Ab,cb,_,_,he,h3,h4,λk=>⟨(QE l[i].s l[0].s u1 0 0 _ got k (hD.z _)).w⟩,hf _ _ _ _ he⟩,hb⟩
 ·obtain⟨⟨Au,cu,Ab,cb,he,h3,h4⟩,hb,hf⟩:=h.1 h2;exact⟨⟨Au,cu,Ab,cb,_,_,he,h3,h4,λk=>⟨(Us _ 1 u1 _).w⟩,hf _ _ _ _ he⟩,hb⟩
theorem Ni(l:List Nd)(hl:0<l.length)(zv:l.length<=65536)(A A2:Option Addr)(c m c2:Nat)(view:Int)(w:World)(hD:DwH l view)(hr:Reads w w.heap.size 44 A l.length (lI l)): Calls prog 47 #[.agg #[.slice A l.length c,.slice A2 m c2,view]] w λe w'=>(∃(x y z:Int) (b:Bool),e= .returned (.tuple #[.agg #[x,y,z],b])/\CB x)/\Below w.heap.size w w':=by refine(Mn l hl zv A A2 c m c2 view w hr (hD.x _ (YJ hl) (hD.z hl)).wq hD.v).mono ?_;rintro e w' ⟨he,hb⟩;exact⟨⟨_,_,_,_,he,⟨Bl (Gp _ _),(tA _).2⟩⟩,hb⟩
structure Dp(w2:World)(gu gb n:Nat)(W:World):Prop where
 b:Below w2.heap.size w2 W
 o:Be W gu n
 f:pq W gb n
 og:w2.heap.size<=gu
 fg:w2.heap.size<=gb
section
variable{w2 W W':World}{gu gb n:Nat}
theorem Dp.lR(h:Dp w2 gu gb n W)(hb:Below W.heap.size W W'):Dp w2 gu gb n W':=⟨h.b.trans (hb.mono h.b.size),h.o.below hb h.o.lt,h.f.below hb h.f.lt,h.og,h.fg⟩
theorem Dp.ne(h:Dp w2 gu gb n W):gu≠gb:=by obtain⟨cs,h1,_⟩:=h.o;obtain⟨bs,h2,_⟩:=h.f;exact h1.se h2 (by decide)
theorem Dp.EU(h:Dp w2 gu gb n W){k:Nat}(hk:k<n){x:Int}(hx:CB x)(y z:Int):Dp w2 gu gb n (((W.setCell (gu,k*3) x).setCell (gu,k*3+1) y).setCell (gu,k*3+2) z):=
 ⟨((h.b.setCell (p:=(gu,k*3)) h.og _).setCell (p:=(gu,k*3+1)) h.og _).setCell (p:=(gu,k*3+2)) h.og _,h.o.EU hk hx y z,((h.f.lQ (p:=(gu,k*3)) h.ne.symm _).lQ (p:=(gu,k*3+1)) h.ne.symm _).lQ (p:=(gu,k*3+2)) h.ne.symm _,h.og,h.fg⟩
theorem Dp.there3(h:Dp w2 gu gb n W){k:Nat}(hk:k<n):W.there gu (k*3) 3:=by obtain⟨p,h1,-⟩:=h.o;exact nE h1 (by rw[Z1,qC];omega)
theorem Dp.Uf(h:Dp w2 gu gb n W){k:Nat}(hk:k<n){x:Int}(hx:CB x)(y z:Int):Dp w2 gu gb n (W.setCells gu (k*3) [.int .i64 x,.int .i64 y,.int .i64 z]):=h.EU hk hx y z
theorem Dp.MH(h:Dp w2 gu gb n W)(k:Nat)(v:Bool):Dp w2 gu gb n (W.setCell (gb,k) (.bool v)):=⟨h.b.setCell (p:=(gb,k)) h.fg _,h.o.lQ (p:=(gb,k)) h.ne _,h.f.lA k v,h.og,h.fg⟩
end
structure Qh(Bd gu gb:Nat)(Au Ab:Option Addr)(p:Nat->Int×Int×Int)(q:Nat->Bool)(m:Nat)(W:World):Prop where
 u:Reads W W.heap.size 3 Au m (ow p m)
 b:Reads W W.heap.size 1 Ab m (oH q m)
 ua:∀ad,Au=some ad->Bd<=ad.block
 ba:∀ad,Ab=some ad->Bd<=ad.block
 gl:gu<Bd/\gb<Bd
theorem Reads.off{W:World}{B size n:Nat}{A:Option Addr}{cs:List Value}(h:Reads W B size A n cs){p:Addr}(hp:∀ad,A=some ad->ad.block≠p.block)(u:Value):Reads (W.setCell p u) B size A n cs:=
 ⟨h.1,λh0=>by obtain⟨ad,e,lN,hc⟩:=h.2 h0;exact⟨ad,e,lN,λj x hx=>(World.cell?_setCell_far _ p _ u (by rw[lp];exact(hp ad e).symm)).trans (hc j x hx)⟩⟩
theorem qm(W:World)(p:Addr)(u:Value):(W.setCell p u).heap.size=W.heap.size:=by simp[World.setCell]
theorem Qh.set{Bd gu gb m:Nat}{Au Ab:Option Addr}{p:Nat->Int×Int×Int}{q:Nat->Bool}{W:World}(h:Qh Bd gu gb Au Ab p q m W){a:Addr}(ha:a.block=gu\/a.block=gb)(u:Value):Qh Bd gu gb Au Ab p q m (W.setCell a u):=by have hs:=qm W a u;have Je:=h.gl;exact⟨by rw[hs];exact h.u.off (λad e=>by have:=h.ua ad e;omega) u,by rw[hs];exact h.b.off (λad e=>by have:=h.ba ad e;omega) u,h.ua,h.ba,h.gl⟩
theorem Qh.drew{Bd gu gb m:Nat}{Au Ab:Option Addr}{p:Nat->Int×Int×Int}{q:Nat->Bool}{W:World}(h:Qh Bd gu gb Au Ab p q m W):Qh Bd gu gb Au Ab p q m W.drew:=⟨h.u.drew,h.b.drew,h.ua,h.ba,h.gl⟩
theorem Qh.Uf{Bd gu gb m:Nat}{Au Ab:Option Addr}{p:Nat->Int×Int×Int}{q:Nat->Bool}{W:World}(h:Qh Bd gu gb Au Ab p q m W)(o:Nat)(x y z:Value):Qh Bd gu gb Au Ab p q m (W.setCells gu o [x,y,z]):=
 ((h.set (a:=⟨gu,o,none⟩) (.inl rfl) x).set (a:=⟨gu,o+1,none⟩) (.inl rfl) y).set (a:=⟨gu,o+2,none⟩) (.inl rfl) z
theorem Reads.triQ{W:World}{B n k:Nat}{A:Option Addr}{p:Nat->Int×Int×Int}(h:Reads W B 3 A n (ow p n))(hk:k<n): ∃ad:Addr,A=some ad/\ad.block<B/\W.cell? (ad.add (k*3))=some (.int .i64 (p k).1)/\W.cell? (ad.block,(ad.add (k*3)).off+1)=some (.int .i64 (p k).2.1)/\W.cell? (ad.block,(ad.add (k*3)).off+2)=some (.int .i64 (p k).2.2):=by
 obtain⟨ad,e,hb,hc⟩:=h.2 (by omega);have ha:∀i,i≠0->(⟨ad.block,(ad.add (k*3)).off+i,none⟩:Addr)=ad.add (k*3+i):=λi hi=>by rw[<-mJ,show∀p:Addr,p.add i=⟨p.block,p.off+i,none⟩from λp=>by unfold Addr.add;rw[YO hi],lp]
 refine⟨ad,e,hb,?_,?_,?_⟩
 ·exact hc _ _ (by have:=rR p (r:=0) (by omega) hk;exact this)
 ·rw[ha 1 (by omega)];exact hc _ _ (by have:=rR p (r:=1) (by omega) hk;exact this)
 ·rw[ha 2 (by omega)];exact hc _ _ (by have:=rR p (r:=2) (by omega) hk;exact this)
def C3(W:World)(g o:Nat)(x y z:Int):Prop:=W.cell? (g,o)=x/\W.cell? (g,o+1)=y/\W.cell? (g,o+2)=z
theorem C3.below{W W':World}{g o B:Nat}{x y z:Int}(h:C3 W g o x y z)(hb:Below B W W')(hg:g<B):C3 W' g o x y z:=⟨(hb.cell (p:=(g,o)) hg).trans h.1,(hb.cell (p:=(g,o+1)) hg).trans h.2.1,(hb.cell (p:=(g,o+2)) hg).trans h.2.2⟩
theorem KF(l:List Nd)(adv:List Int)(A A2:Option Addr)(c c2:Nat)(view:Int)(w:World)(hL:QI l adv A A2 w)(hD:DwH l view)(gk lo gc:Nat)(Hj:p9 w lo w.heap.size gk l)(L1:yx w gc l.length): Calls prog 29 #[.agg #[.slice A l.length c,.slice A2 adv.length c2,view],.slice gk l.length l.length,.slice gc l.length l.length] w λe w'=> (∃gu gb:Nat,e= .returned (.tuple #[.slice gu l.length l.length,.slice gb l.length l.length])/\Be w' gu l.length/\pq w' gb l.length/\w.heap.size<=gu/\w.heap.size<=gb)/\Below w.heap.size w w':=by
 have HN:=X6 hL.n;have HTR:=X6 (λW (hb:Below w.heap.size w W)=>((hL.at_ hb).tr.nd));have HFS:=X6 (λW (hb:Below w.heap.size w W)=>Ni l hL.n.1 (by have:=hL.n;omega) A A2 c adv.length c2 view W hD (hL.at_ hb).tr.nd);have Ct:=X6 (λW (hb:Below w.heap.size w W) (i:Nat) (hi:i<l.length) Ak Ag ck cg u1 u2 u3 ks (qA:ks=oF l i) got hk hg hc hx=>Kw l view hD i hi hL.n.2 A A2 Ak Ag c adv.length c2 ck cg u1 u2 u3 ks qA got W (hL.at_ hb).tr.nd hL.qt.uv hk hg hc hx);obtain⟨w1,mW⟩:∃W,W=w.alloc (.cells #[.slice A l.length c,.slice A2 adv.length c2,view] 25):=⟨_,rfl⟩;have oW:Hid (lq w1 w.heap.size 25 #[.slice A l.length c,.slice A2 adv.length c2,view]):=X6 (by rw[mW];exact lq.new _ _ _);have mA:Hid (Below w.heap.size w w1):=X6 (by rw[mW];exact bA);have pD:Hid (∀W,Below w1.heap.size w1 W->lq W w.heap.size 25 #[.slice A l.length c,.slice A2 adv.length c2,view]/\Below w.heap.size w W/\p9 W lo w.heap.size gk l/\yx W gc l.length):=X6 (λW hb=>by have h1:Below w.heap.size w W:=mA.trans (hb.mono mA.size);exact⟨oW.below hb oW.lt,h1,Hj.below h1,L1.below h1 L1.lt⟩);have Yp:Hid (gc<w.heap.size/\gk<w.heap.size/\w.heap.size<=w1.heap.size):=X6 ⟨L1.lt,Hj.lt,mA.size⟩;clear hL hD Hj L1;go_enter func29,ntmps29;go_upto_region 1 with(fail)
 rw[<-mW];clear mW;obtain⟨t0,t1,t2⟩:=oW.c3;have tl:=oW.lt;have xG:l.length<=1000000:=by have:=HN.out;omega
 have JC:=Em l.length xG w1;go_upto_region 2 with(fail)
 have A0:Hid (Be (w1.alloc (.cells (ow (λ_=>(0,0,0)) l.length).toArray 40)) w1.heap.size l.length/\Below w1.heap.size w1 (w1.alloc (.cells (ow (λ_=>(0,0,0)) l.length).toArray 40))):=X6 ⟨Be.new _ _ _ rfl,bA⟩;obtain⟨gu,rW⟩:∃g,g=w1.heap.size:=⟨_,rfl⟩;have Mg:Hid (w1.heap.size<=gu):=X6 (by omega);have JY:Hid (Be (w1.alloc (.cells (ow (λ_=>(0,0,0)) l.length).toArray 40)) gu l.length/\Below w1.heap.size w1 (w1.alloc (.cells (ow (λ_=>(0,0,0)) l.length).toArray 40))):=X6 (by rw[rW];exact A0.out);rw[<-rW];clear JC t0 t1 t2 tl A0 rW;generalize World.alloc w1 _=w3 at JY⊢;obtain⟨t0,t1,t2⟩:=(pD.out w3 JY.2).1.c3;have tl:=(pD.out w3 JY.2).1.lt;have NV:=uI l.length xG w3;go_upto_region 3 with(fail)
 have Ic:Hid (Dp w1 gu w3.heap.size l.length (w3.alloc (.cells (wm l.length).toArray 4))):=X6 (by have hb:Below w3.heap.size w3 (w3.alloc (.cells (wm l.length).toArray 4)):=bA;have h3:=JY.2;exact⟨h3.trans (hb.mono h3.size),JY.1.below hb JY.1.lt,pq.new _ _ _ rfl,Mg.out,h3.size⟩);obtain⟨gb,zG⟩:∃g,g=w3.heap.size:=⟨_,rfl⟩;rw[<-zG];rw[<-zG]at Ic;clear NV t0 t1 t2 tl zG JY Mg;generalize World.alloc w3 _=w4 at Ic⊢;obtain⟨t0,t1,t2⟩:=(pD.out w4 Ic.b).1.c3;have tl:=(pD.out w4 Ic.b).1.lt;have Gg:0<l.length:=HN.1;have Vq:(0:Int)<(l.length:Int):=by omega
 go_upto_region 4 with(go_at_call 47;refine(HFS.out w4 (pD.out w4 Ic.b).2.1).mono ?_;rintro e w5 ⟨⟨fx,fy,fz,fb,rfl,WR⟩,wE⟩;have X5:=X6 (Ic.lR wE);have Ql:=X6 WR;clear wE WR;obtain⟨y1,y2,y3,-,z0,z1,z2⟩:=X5.o.at_ Gg;obtain⟨y4,z3⟩:=X5.f.at_ Gg;have zf:=X5.o.frozen;have zg:=X5.f.frozen;have zn:¬gb=gu:=λe=>X5.ne e.symm;have zm:¬gu=gb:=X5.ne;have zl:=X5.o.lt;have zk:=X5.f.lt);have HU6:Hid (Dp w1 gu gb l.length ((((w5.setCell (gu,0) fx).setCell (gu,1) fy).setCell (gu,2) fz).setCell (gb,0) (.bool fb))):=X6 (by have h:=(X5.EU Gg Ql.out fy fz).MH 0 fb;rw[aB5,ZX,ZX]at h;exact h);clear t0 t1 t2 tl y1 y2 y3 y4 z0 z1 z2 z3 zf zg zn zm zl zk X5 Ic Ql HFS Vq;generalize World.setCell _ _ _=w6 at HU6⊢;go_upto_region 5 with(fail);go_loopw [10] (λiv wr=>∃i:Nat,i<=l.length/\iv= .int .i64 (i:Int)/\Hid (Dp w1 gu gb l.length wr)) (λiv _=>l.length-(intOf iv).toNat);case atStart=>exact⟨0,by omega,rfl,HU6⟩
 case round=>
  clear HU6;obtain⟨i,hi,rfl,HU⟩:=hrel;have Vp:IntKind.i64.wrap ((i:Int)+1)=(i:Int)+1:=YG _ ⟨by omega,by have:=HN.out;omega⟩;obtain⟨t0,t1,t2⟩:=(pD.out wr HU.b).1.c3;have tl:=(pD.out wr HU.b).1.lt;by_cases tQ:i<l.length;rotate_left
  ·have d0:decide ((i:Int)<(l.length:Int))=false:=X9 (by omega);have pJ:decide (i<l.length)=false:=X9 tQ;go_wp2_with fail;go_ret2;exact⟨⟨gu,gb,rfl,HU.o,HU.f,by have h1:=HU.og;have h2:=Yp.2.2;omega,by have h1:=HU.fg;have h2:=Yp.2.2;omega⟩,(pD.out _ HU.b).2.1⟩
  have d0:decide ((i:Int)<(l.length:Int))=true:=YC (by omega);have pJ:decide (i<l.length)=true:=YC tQ;have wQ:(i:Int)<(l.length:Int):=by omega
  have Es:=X6 tQ;obtain⟨ks,qA⟩:∃ks,ks=oF l i:=⟨_,rfl⟩;have JJ:=X6 qA;have Hj:=(pD.out w1 (ZN _ _)).2.2.1;obtain⟨Ak,ck,JX,-,FF,-⟩:=Hj.at_ i tQ;rw[<-qA]at JX FF;have BA:Hid (∀W,Below w1.heap.size w1 W->W.cell? (gk,i)=some (.slice Ak ks.length ck)/\gk<W.heap.size/\Reads W W.heap.size 1 Ak ks.length (lY ks)):=X6 (λW hb=>⟨(hb.cell (p:=(gk,i)) (by have:=Yp.out;show gk<_;omega)).trans JX,YK (YK Yp.2.1 Yp.2.2) hb.size,((FF.more Yp.2.2).below hb).more hb.size⟩);have Hb:Hid (ks.length<=1000):=X6 (by rw[qA];have:=vj l i;have:=HN.out;omega);have S6:Hid (∀k∈ks,∃q:Nat,k=(q:Int)/\q<l.length):=X6 (λk hk=>by rw[qA]at hk;obtain⟨q,h1,h2,_⟩:=tu hk;exact⟨q,h1,h2⟩);clear qA Hj JX FF tQ;go_wp2_with fail;go_loopw [11,12] (λv kv V=>∃(m:Nat) (Ag:Option Addr) (cg:Nat) (got:List Cn),m<=ks.length/\v= .slice Ag got.length cg/\kv= .int .i64 (m:Int)/\Hid (got.length=m/\Below wr.heap.size wr V/\V.ownsRow wr.heap.size 38 4 (.slice Ag got.length cg) got.length (ly got)/\∀x∈got,JB x)) (λ_ kv _=>ks.length-(intOf kv).toNat);case atStart=>exact⟨0,none,0,[],by omega,rfl,rfl,X6 ⟨rfl,ZN _ _,YV _ _ _ _,by simp⟩⟩
  case round=>
   clear t0 t1 t2 tl;obtain⟨m,Ag,cg,got,hm,rfl,rfl,HG⟩:=hrel;have C2:IntKind.i64.wrap ((m:Int)+1)=(m:Int)+1:=YG _ ⟨by omega,by have:=Hb.out;omega⟩;have B9:=X6 (HU.lR HG.2.1);obtain⟨k0,kl,FF⟩:=BA.out _ B9.b;by_cases wF:m<ks.length;rotate_left
   ·have f0:decide ((m:Int)<(ks.length:Int))=false:=X9 (by omega);have MO:decide (m<ks.length)=false:=X9 wF;as_aux_lemma=>
    go_upto_region 12 with(fail);clear k0 kl FF f0 MO;obtain⟨u1,u2,u3,XT,hz⟩:=B9.o.at_ Es.out;have HU1:=X6 XT;have HZ:=X6 (show C3 _ gu (i*3) u1 u2 u3 from hz);clear XT hz;have NC:=X6 (lG HG.2.2.1 (ZN _ _).drew);refine wp_region_held_drew (S:=λV=>Dp w1 gu gb l.length V/\C3 V gu (i*3) u1 u2 u3) (by kernel_rfl) (⟨B9.lR (ZN _ _).drew,HZ.below (ZN _ _).drew B9.o.lt⟩) (λhS=>?_);refine nk [0,1,2,3,4,5,6,7,8,9,10] ?_;iterate 11
     refine tk hS (y:=by intro W' lr;obtain⟨t0,t1,t2⟩:=(pD.out W' lr.1.b).1.c3;have tl:=(pD.out W' lr.1.b).1.lt;obtain⟨k0,kl,-⟩:=BA.out _ lr.1.b;obtain⟨z0,z1,z2⟩:=lr.2;have zl:=lr.1.o.lt;go_simp;rfl) (h:=?_)
    refine np ?_;refine mV 11 (λK hK=>?_);go_simp;refine(Ct.out _ (pD.out _ hS.1.b).2.1 i Es.out Ak Ag ck cg u1 u2 u3 ks JJ.out got (BA.out _ hS.1.b).2.2 (Reads.mo NC.out) HU1.out HG.2.2.2).mono ?_;rintro e w9 ⟨⟨Au,cu,Ab,cb,pu,qb,rfl,Jq,Bj,hpu,hfu,Eo⟩,mH⟩;have HPU:=X6 hpu;obtain⟨Bd,oP⟩:∃Bd,Hid (Qh Bd gu gb Au Ab pu qb ks.length w9):=⟨_,X6 ⟨Jq,Bj,hfu,Eo,⟨hS.1.o.lt,hS.1.f.lt⟩⟩⟩;clear hpu Jq Bj hfu Eo;refine ky hK ⟨hS.1.lR mH,hS.2.below mH hS.1.o.lt⟩ λhS=>?_;clear hK;refine nk [12,13,14,15,16] ?_;iterate 5
     refine tk hS (y:=by intro W' lr;obtain⟨t0,t1,t2⟩:=(pD.out W' lr.1.b).1.c3;have tl:=(pD.out W' lr.1.b).1.lt;obtain⟨k0,kl,-⟩:=BA.out _ lr.1.b;obtain⟨z0,z1,z2⟩:=lr.2;have zl:=lr.1.o.lt;go_simp;rfl) (h:=?_)
    refine np ?_;refine nR ?_;have XA:=X6 (And.intro hS.1 oP.out);clear hS;go_upto_region 14 with(fail)
    go_loopw [15] (λjv V=>∃j:Nat,j<=ks.length/\jv= .int .i64 (j:Int)/\Hid (Dp w1 gu gb l.length V/\Qh Bd gu gb Au Ab pu qb ks.length V)) (λjv _=>ks.length-(intOf jv).toNat);case atStart=>exact⟨0,by omega,rfl,XA⟩
    case round=>
     obtain⟨j,hj,rfl,HJ⟩:=hrel;have hwj:IntKind.i64.wrap ((j:Int)+1)=(j:Int)+1:=YG _ ⟨by omega,by have:=Hb.out;omega⟩;obtain⟨k0,kl,FF⟩:=BA.out _ HJ.1.b;by_cases FA:j<ks.length;rotate_left
     ·have f0:decide ((j:Int)<(ks.length:Int))=false:=X9 (by omega);have MO:decide (j<ks.length)=false:=X9 FA;have HE:=X6 HJ.1;go_wp2_with fail;go_roundw;case rel=>exact⟨i+1,by have:=Es.out;omega,by go_num,HE⟩
      case measure=>have h9:=Es.out;simp[intOf];omega
     have f0:decide ((j:Int)<(ks.length:Int))=true:=YC (by omega);have MO:decide (j<ks.length)=true:=YC FA;have Cq:(j:Int)<(ks.length:Int):=(by omega);obtain⟨q,yi,pW⟩:=S6.out ks[j] (YJ FA);have tU:=X6 pW;have KQ:(q:Int)<(l.length:Int):=(by omega);have Fa:=X6 FA;have HEL:Hid (∀W,Below w1.heap.size w1 W->∃CA,Ak=some CA/\CA.block<W.heap.size/\W.cell? (CA.add j)=(q:Int)):=X6 (λW hb=>by obtain⟨CA,u,e,VA,hx,LZ⟩:=(BA.out W hb).2.2.at_ Fa.out;have hu:u= .int .i64 (q:Int):=(by rw[<-yi];simpa[lY,Fa.out]using hx.symm);subst hu;exact⟨CA,e,VA,LZ⟩);obtain⟨CA,rfl,-,-⟩:=HEL.out _ HJ.1.b;obtain⟨au,hau,-⟩:=HJ.2.u.triQ Fa.out;subst hau;obtain⟨ab,ub,qu,-,-,-⟩:=HJ.2.b.at_ Fa.out;subst qu;clear k0 kl FF yi;obtain⟨k0,kl,-⟩:=BA.out _ HJ.1.b;go_upto_region 16 with(fail)
     clear k0 kl;refine wp_region_held_drew (S:=λV=>Dp w1 gu gb l.length V/\Qh Bd gu gb (some au) (some ab) pu qb ks.length V) (by kernel_rfl) (⟨HJ.1.lR (ZN _ _).drew,HJ.2.drew⟩) (λhS=>?_);refine nk [0,1,2,3,4,5,6,7,8,9,10,11,12] ?_;iterate 13
      refine tk hS (y:=by intro W' lr;obtain⟨k0,kl,-⟩:=BA.out _ lr.1.b;obtain⟨adk2,sP,akl,ak0⟩:=HEL.out _ lr.1.b;obtain rfl:CA=adk2:=(by injection sP);clear sP;obtain⟨au2,yK,aul,x0,x1,x2⟩:=lr.2.u.triQ Fa.out;obtain rfl:au=au2:=(by injection yK);clear yK;have zl:=lr.1.o.lt;go_simp;rfl) (h:=?_)
     refine np ?_;refine mV 13 (λK hK=>?_);refine wL rfl 40 (.tmp 98) (.tmp 97) rfl gu (q*3) [.int .i64 (pu j).1,.int .i64 (pu j).2.1,.int .i64 (pu j).2.2] (by go_simp) rfl (hS.1.there3 tU.out) (by kernel_rfl) (by simp[Value.oneCell']) ?_;refine ky hK ⟨hS.1.Uf tU.out (HPU.out j) _ _,hS.2.Uf _ _ _ _⟩ λhS=>?_;clear hK;refine nR ?_;have JN:=X6 hS;clear hS;go_upto_region 17 with(fail)
     refine wp_region_held_drew (S:=λV=>Dp w1 gu gb l.length V/\Qh Bd gu gb (some au) (some ab) pu qb ks.length V) (by kernel_rfl) (⟨JN.1.lR (ZN _ _).drew,JN.2.drew⟩) (λhS=>?_);refine nk [0,1,2,3,4,5,6,7,8,9,10,11,12] ?_;iterate 13
      refine tk hS (y:=by
       intro W' lr;obtain⟨k0,kl,-⟩:=BA.out _ lr.1.b;obtain⟨adk2,sP,akl,ak0⟩:=HEL.out _ lr.1.b;obtain rfl:CA=adk2:=(by injection sP);clear sP;obtain⟨au2,uu,yK,aul,hx,x0⟩:=lr.2.b.at_ Fa.out;obtain rfl:ab=au2:=(by injection yK);obtain rfl:uu= .bool (qb j):=by rw[xL qb Fa.out]at hx;injection hx with hx;exact hx.symm
       clear yK hx;have zl:=lr.1.f.lt;go_simp;rfl) (h:=?_)
     refine np ?_;refine mV 13 (λK hK=>?_);obtain⟨yb,y0⟩:=hS.1.f.at_ tU.out;have yl:=hS.1.f.lt;have yf:=hS.1.f.frozen;go_simp;clear y0 yl yf;refine ky hK ⟨hS.1.MH q _,hS.2.set (.inr rfl) _⟩ λhS=>?_;clear hK;refine nR ?_;have HJ3:=X6 hS;clear hS;go_wp2_with fail;go_roundw;case rel=>exact⟨j+1,by omega,by go_num,HJ3⟩
     case measure=>simp[intOf];omega
   have f0:decide ((m:Int)<(ks.length:Int))=true:=YC (by omega);have MO:decide (m<ks.length)=true:=YC wF;have hmi:(m:Int)<(ks.length:Int):=(by omega);obtain⟨CA,u,rfl,VA,hx,LZ⟩:=FF.at_ wF;obtain⟨q,yi,pW⟩:=S6.out ks[m] (YJ wF);have hu:u= .int .i64 (q:Int):=(by rw[<-yi];simpa[lY,wF]using hx.symm);subst hu;have KQ:(q:Int)<(l.length:Int):=(by omega);obtain⟨X,hXQ,x0,x1,x2,x3⟩:=(pD.out _ B9.b).2.2.2.at_ pW;have HXQ:=X6 hXQ;have ol:=(pD.out _ B9.b).2.2.2.lt;have oA:got.length+1<=4294967296:=(by have h1:=HG.1;have h2:=Hb.out;omega);clear hx yi hXQ;go_wp2_with (at_builtin;refine lM (m:=1) rfl _ _ rfl yk HG.2.2.1 HG.2.1.size rfl [.int .i64 X.least,.int .i64 X.lC,.int .i64 X.ol,.int .i64 X.og] rfl rfl (by simp[Value.oneCell']) oA (by omega) ?_;intro A9 c9 w6 mF uK oO pa;have zq:=X6 (And.intro (HG.2.1.grown oO HG.2.1.size (λg e=>(HG.2.2.1.lt g e).1)) mF);clear mF uK oO pa);go_roundw;case rel=>exact⟨m+1,A9,c9,got++[X],by omega,by rw[YM];rfl,by go_num,X6 ⟨by have:=HG.1;simp;omega,zq.1,by rw[YM,show ly (got++[X])=ly got++mP X by simp[ly]];exact zq.2,λx hx=>by
    rcases YW.1 hx with h | h
    ·exact HG.2.2.2 x h
    ·simp only[Y7,ZD,DA]at h;subst h;exact HXQ.out⟩⟩
   case measure=>simp[intOf];omega
end
section
attribute [local go_sem] lp
structure QW(B n gc gu gh gf:Nat)(W:World):Prop where
 c:yx W gc n
 u:Be W gu n
 h:pe W gh n
 f:qX B W gf n
 g:B<=gc/\B<=gu/\B<=gh/\B<=gf
theorem QW.lR{B n gc gu gh gf:Nat}{W W':World}(h:QW B n gc gu gh gf W)(hb:Below W.heap.size W W'):QW B n gc gu gh gf W':=⟨h.c.below hb h.c.lt,h.u.below hb h.u.lt,h.h.below hb h.h.lt,h.f.below hb,h.g⟩
theorem QW.lQ{B n gc gu gh gf:Nat}{W:World}(h:QW B n gc gu gh gf W){p:Addr}(hp:p.block<B)(v:Value):QW B n gc gu gh gf (W.setCell p v):=by have hg:=h.g;have kt:∀t,Kt t B W (W.setCell p v):=λt=>Kt.setCell v (.inl hp);exact⟨h.c.lQ (by omega) v,h.u.lQ (by omega) v,h.h.lQ (by omega) v,h.f.kept (λ_ hc=>hc.lQ (by omega) v) (kt _) (kt _),hg⟩
theorem QW.low{B B' n gc gu gh gf:Nat}{W:World}(h:QW B n gc gu gh gf W)(hB:B'<=B):QW B' n gc gu gh gf W:=by have hg:=h.g;refine⟨h.c,h.u,h.h,?_,by omega⟩;obtain⟨fs,h1,h2,h3⟩:=h.f;exact⟨fs,h1,h2,λf hf=>oh.low (h3 f hf) hB⟩
def Yz(g n:Nat):Value:= .slice g n n
structure LyA(l:List Nd)(w w':World)(e:Ending):Prop where
 ex:∃(A1 A2 A3 A4:Option Addr) (n1 n2 n3 n4 c1 c2 c3 c4:Nat) (n r:Int),e= .returned (.tuple #[.agg #[.slice A1 n1 c1,.slice A2 n2 c2,.slice A3 n3 c3,.slice A4 n4 c4],n,r])/\
  (r=0->∃gc gu gh gf,Value.slice A1 n1 c1=Yz gc l.length/\Value.slice A2 n2 c2=Yz gu l.length/\Value.slice A3 n3 c3=Yz gh l.length/\Value.slice A4 n4 c4=Yz gf l.length/\QW w.heap.size l.length gc gu gh gf w')
 b:Below w.heap.size w w'
def LayS:Prop:=∀(l:List Nd) (adv:List Int) (A A2:Option Addr) (c c2:Nat) (view:Int) (w:World),QI l adv A A2 w->DwH l view->
 Calls prog 7 #[.agg #[.slice A l.length c,.slice A2 adv.length c2,view]] w λe w'=>LyA l w w' e
end
section
theorem T4(l:List Nd){x:Nd}(h:x∈l):x.s.mu.length<=On l:=by
 induction l with
 | nil=>simp at h
 | cons a t ih=>
  have e:On (a::t)=a.s.mu.length+On t:=by simp[On]
  rcases Y7.1 h with rfl | h
  ·omega
  ·have:=ih h;omega
theorem T5(l:List Nd)(ns:List Nat):(∀n∈ns,n<l.length)->ns.Pairwise (· < ·)->(ns.map λ(n:Nat)=>((wN l (n:Int)).map λs=>s.mu.length).getD 0).sum<=On l:=by
 intro h1 h2;have key:∀(l:List Nd) (b:Nat) (ns:List Nat),(∀n∈ns,b<=n/\n<b+l.length)->ns.Pairwise (· < ·)->(ns.map λ(n:Nat)=>((l[n-b]?).map λx=>x.s.mu.length).getD 0).sum<=On l:=by
  intro l;induction l with
  | nil=>
   intro b ns h _;cases ns with
   | nil=>simp
   | cons a t=>have:=h a (by simp);simp at this;omega
  | cons x t ih=>
   intro b ns h hp;have e:On (x::t)=x.s.mu.length+On t:=(by simp[On]);rw[e];have tail:∀ns:List Nat,(∀n∈ns,b+1<=n/\n<b+1+t.length)->ns.Pairwise (· < ·)->(ns.map λ(n:Nat)=>(((x::t)[n-b]?).map λx=>x.s.mu.length).getD 0).sum<=On t:=(by intro ns h hp;have:=ih (b+1) ns h hp;refine YL (aC9 ?_) this;congr 1;apply aAX;intro n hn;have hb:=h n hn;rw[show n-b=(n-(b+1))+1 by omega,List.getElem?_cons_succ]);cases ns with
   | nil=>simp
   | cons a ns=>
    have ha:=h a (by simp);rw[ZA]at ha;rw[aBK]at hp;by_cases qu:a=b
    ·have:=tail ns (λn hn=>by have h3:=h n (by simp[hn]);have h4:=hp.1 n hn;rw[ZA]at h3;omega) hp.2;rw[Y6,ZF,qu,aC7,List.getElem?_cons_zero];show x.s.mu.length+_<=_;omega
    ·have:=tail (a::ns) (λn hn=>by
      have h3:=h n hn;rw[ZA]at h3;rcases Y7.1 hn with rfl | hn
      ·omega
      ·have:=hp.1 n hn;omega) (aBK.2 hp)
     omega
 have:=key l 0 ns (λn hn=>⟨by omega,by have:=h1 n hn;omega⟩) h2;refine YL (aC9 ?_) this;congr 1;apply aAX;intro n hn;have hn:=h1 n hn;rw[Ib hn,Nat.sub_zero,YH hn];rfl
theorem Si(l:List Nd)(i:Nat):Pd l (oF l i)<=On l:=by have:=T5 l ((List.range l.length).filter λk=>nB l k == (i:Int)) (λn hn=>by simpa using(ZI.1 hn).1) (List.Pairwise.filter _ List.pairwise_lt_range);unfold Pd oF;rw[List.map_map];exact this
theorem limL{s:me}(h:StyR s)(hk:s.kind≠3):StX s:=by have key:=h.lim;exact⟨⟨⟨(key _ (by simp)).1,(key _ (by simp)).2⟩,⟨(key _ (by simp)).1,(key _ (by simp)).2⟩,⟨(key _ (by simp)).1,(key _ (by simp)).2⟩,⟨(key _ (by simp)).1,(key _ (by simp)).2⟩,⟨(key _ (by simp)).1,(key _ (by simp)).2⟩,⟨(key _ (by simp)).1,(key _ (by simp)).2⟩,h.b⟩,(h.gr hk).1,(h.gr hk).2⟩
theorem flexL{l:List Nd}{adv:List Int}{vw:Int}(hok:Bb l adv vw){i:Nat}(hi:i<l.length)(Ff:l[i].s.kind=2){k:Int}(hk:k∈oF l i):(sD l k).kind≠3:=by
 obtain⟨q,rfl,hq,hp,lN⟩:=tu hk;have Cz:l[q].parent=i:=by
  unfold nB at hp;rw[YH hq]at hp;simp only[]at hp
  split at hp
  ·exact hp
  ·omega
 have h3:=((hok.ok.nd q hq).up i (by omega) Cz l[i] (YH hi)).2.1 Ff;rw[VQ hq];exact h3.1
theorem dwH_of{l:List Nd}{adv:List Int}{vw:Int}(h:Bb l adv vw):DwH l vw:=
 ⟨λy hy h3=>by obtain⟨i,hi,rfl⟩:=aBQ.1 hy;exact limL (h.ok.nd i hi).sty h3,λi hi h2 k hk=>flexL h hi h2 hk,⟨h.ok.v⟩,λh0=>by rw[((h.ok.nd 0 h0).top rfl).1];decide⟩
theorem lyH_of{l:List Nd}{adv:List Int}{vw:Int}{A A2:Option Addr}{w:World}(h:Bb l adv vw)(nd:Reads w w.heap.size 44 A l.length (lI l))(ad:Reads w w.heap.size 1 A2 adv.length (lY adv))(un:∀x∈l,∃Au cu,x.s.uv= .slice Au x.s.mu.length cu/\x.s.mu.length<=cu/\Reads w w.heap.size 1 Au x.s.mu.length (uP x.s.mu)/\xh x.s.mu)(hi:rM adv):QI l adv A A2 w:=by
 have hu:=h.u;have hn:=h.n;have h0:=h.ok.n.1;refine⟨⟨h0,by omega⟩,⟨nd,ad,λx hx=>?_,hi,by omega⟩,⟨by omega,λx hx=>?_,λi hi h1=>?_,λ_=>?_⟩,λb hb=>?_,λx hx=>?_,λx hx=>?_,λx hx h3=>?_⟩
 ·obtain⟨Au,cu,h1,h2,h3,h4⟩:=un x hx;exact⟨Au,cu,h1,h2,h3,h4,by have:=T4 l hx;omega⟩
 ·obtain⟨Au,cu,h1,_⟩:=un x hx;exact⟨Au,_,cu,h1⟩
 ·rcases(h.ok.nd i hi).par with⟨e,_⟩ | ⟨_,h2,h3,_⟩
  ·omega
  ·exact⟨h2,h3⟩
 ·have hk:=((h.ok.nd 0 h0).top rfl).1;unfold mZ;rw[YH h0];simp[hk]
 ·have:=Si l b;omega
 ·have:=T4 l hx;omega
 ·obtain⟨i,hi,rfl⟩:=aBQ.1 hx;exact(h.ok.a i hi).1
 ·obtain⟨i,hi,rfl⟩:=aBQ.1 hx;exact(h.ok.nd i hi).sty.b
end
end Go.Proofs.YtjhingednpjogaaGreat
