/- Lemmas for ValidRoom; laid together by a program. -/
import Derived.Laws.OwnMore
import Derived.Test.YtjhingednpjogaaGreatItb
import Derived.Deep.LoopGhost
set_option linter.all false
namespace Go.Proofs.YtjhingednpjogaaGreat
open Go.Proofs.Tryz
section
open Go.RowKit
def nM(l:List Nat):List Value:=l.map λx:Nat=>Value.int .i64 (x:Int)
theorem NT(a:List Nat)(k:Nat):nM (a++[k])=nM a++[.int .i64 (k:Int)]:=by simp[nM]
def rowAt(rows:List (List Nat))(p:Nat):List Nat:=(rows[p]?).getD []
theorem el_row:El prog 80 51 (.slice none 0 0) 1 24:=⟨underlying80,by kernel_rfl,rfl,by decide⟩
theorem uj{w:World}{base PS:Nat}{e e':TypeId}{size size' n n':Nat}{v v':Value}{xs xs':List Value}(h:w.ownsRow base e size v n xs)(h':w.ownsRow PS e' size' v' n' xs')(mI:e≠e'):v.ownBlock=none\/v.ownBlock≠v'.ownBlock:=by
 rcases h.2 with⟨h1,_⟩ | ⟨g,cap,cur,h1,_,hg,_⟩
 ·exact .inl (by rw[h1];rfl)
 ·refine .inr λe0=>?_;rcases h'.2 with⟨h2,_⟩ | ⟨g',cap',cur',h2,_,QL,_⟩
  ·rw[h1,h2]at e0;simp[Value.ownBlock]at e0
  ·rw[h1,h2]at e0;have:g=g':=(by simpa[Value.ownBlock]using e0);subst this;rw[hg]at QL;injection QL with QL
   injection QL with _ ht;exact mI ht
structure r8(rows:List (List Nat))(base:Nat)(vs:List Value)(v:Value)(w:World):Prop where
 len:vs.length=rows.length
 own:∀p (h:p<vs.length),w.ownsRow base 3 1 vs[p] (rowAt rows p).length (nM (rowAt rows p))
 ne:∀p q (hp:p<vs.length) (hq:q<vs.length),p≠q->vs[p].ownBlock=none\/vs[p].ownBlock≠vs[q].ownBlock
 v:w.ownsRow base 51 1 v vs.length vs
section
variable{rows:List (List Nat)}{base:Nat}{vs:List Value}{v:Value}{w w':World}
theorem r8.start(base:Nat)(w:World):r8 [] base [] (.slice none 0 0) w:=⟨rfl,λp h=>by simp at h,λp q h=>by simp at h,YV _ _ _ _⟩
theorem r8.kept(h:r8 rows base vs v w)(hb:Below w.heap.size w w'):r8 rows base vs v w':=⟨h.len,λp hp=>lG (h.own p hp) hb,h.ne,lG h.v hb⟩
theorem r8.low(h:r8 rows base vs v w){a:Addr}(ha:a.block<base)(u:Value):r8 rows base vs v (w.setCell a u):=⟨h.len,λp hp=>ZT (h.own p hp) ha u,h.ne,ZT h.v ha u⟩
theorem r8.lQ{w0:World}(h:r8 rows base vs v w)(h0:r8 rows base vs v w0){g:Nat}(hg:w0.heap.size<=g)(i:Nat)(u:Value):r8 rows base vs v (w.setCell (g,i) u):=
 ⟨h.len,λp hp=>ZP (h.own p hp) (a:=⟨g,i,none⟩) (λe=>by have:=((h0.own p hp).lt g e).2;omega) u,h.ne,ZP h.v (a:=⟨g,i,none⟩) (λe=>by have:=(h0.v.lt g e).2;omega) u⟩
theorem r8.push(h:r8 rows base vs v w){nv:Value}(lV:w'.ownsRow base 51 1 nv (vs.length+1) (vs++[.slice none 0 0]))(hg:w.grownBy w' v.ownBlock):r8 (rows++[[]]) base (vs++[.slice none 0 0]) nv w':=by
 refine⟨by simp[h.len],λp hp=>?_,λp q hp hq mI=>?_,by simpa using lV⟩
 ·by_cases hl:p<vs.length
  ·rw[aBE hl];have e:rowAt (rows++[[]]) p=rowAt rows p:=(by unfold rowAt;rw[YN (by rw[<-h.len];exact hl)]);rw[e];exact(h.own p hl).kept hg (uj (h.own p hl) h.v (by decide))
  ·have hpe:p=vs.length:=(by simp at hp;omega);subst hpe;have e:rowAt (rows++[[]]) vs.length=[]:=(by unfold rowAt;rw[YQ (by rw[h.len];exact X7 _),h.len];simp);rw[e];simp only[aBV (X7 _),aC7,YA];exact YV _ _ _ _
 ·by_cases hl:p<vs.length
  ·by_cases FW:q<vs.length
   ·rw[aBE hl,aBE FW];exact h.ne p q hl FW mI
   ·have yi:q=vs.length:=(by simp at hq;omega);subst yi;rw[aBE hl];simp only[aBV (X7 _),aC7,YA];cases hb:vs[p].ownBlock with
    | none=>exact .inl rfl
    | some b=>exact .inr (by simp[Value.ownBlock])
  ·have hpe:p=vs.length:=(by simp at hp;omega);subst hpe;simp only[aBV (X7 _),aC7,YA];exact .inl rfl
theorem r8.add(h:r8 rows base vs v w){q k:Nat}(hq:q<vs.length){nv:Value}(lV:w'.ownsRow base 3 1 nv ((rowAt rows q).length+1) (nM (rowAt rows q)++[.int .i64 (k:Int)]))(hg:w.grownBy w' vs[q].ownBlock) (qM:nv.ownBlock=vs[q].ownBlock\/w.heap.size<=(nv.ownBlock).getD w.heap.size) {g n c:Nat} (hv:v= .slice g n c):r8 (rows.set q (rowAt rows q++[k])) base (vs.set q nv) v (w'.setCell (g,q) nv):=by
 have hv':w'.ownsRow base 51 1 v vs.length vs:=h.v.kept hg (uj h.v (h.own q hq) (by decide));have lt:∀p (hp:p<vs.length) (b:Nat),vs[p].ownBlock=some b->b<w.heap.size:=λp hp b e=>((h.own p hp).lt b e).2;have lQ:∀{u:Value} {n:Nat} {xs:List Value},w'.ownsRow base 3 1 u n xs->(w'.setCell (g,q) nv).ownsRow base 3 1 u n xs:=fun {u n xs} hu=>ZP hu (a:=⟨g,q,none⟩) (by
  rcases uj hu hv' (by decide)with e | e
  ·rw[e];simp
  ·rw[hv]at e;simpa[Value.ownBlock]using e) _
 refine⟨by simp[h.len],λp hp=>?_,λp r hp hr mI=>?_,?_⟩
 ·rw[Xz]at hp;rw[aBG];by_cases LW:q=p
  ·subst LW;rw[YP rfl];have e:rowAt (rows.set q (rowAt rows q++[k])) q=rowAt rows q++[k]:=(by have:q<rows.length:=(by rw[<-h.len];exact hq);unfold rowAt;rw[List.getElem?_set_self this];rfl);rw[e,NT,YM];exact lQ lV
  ·rw[YO LW];have e:rowAt (rows.set q (rowAt rows q++[k])) p=rowAt rows p:=(by unfold rowAt;rw[List.getElem?_set_ne LW]);rw[e];exact lQ ((h.own p hp).kept hg (h.ne p q hp hq (λe=>LW e.symm)))
 ·rw[Xz]at hp hr;rw[aBG,aBG];by_cases h1:q=p
  ·subst h1;rw[YP rfl,YO mI];rcases qM with qM | qM
   ·rw[qM];exact h.ne q r hp hr mI
   ·cases hn:nv.ownBlock with
    | none=>exact .inl rfl
    | some b=>refine .inr λe=>?_;have:=lt r hr b e.symm;rw[hn]at qM;simp at qM;omega
  ·rw[YO h1];by_cases h2:q=r
   ·subst h2;rw[YP rfl];rcases qM with qM | qM
    ·rw[qM];exact h.ne p q hp hr mI
    ·cases hn:vs[p].ownBlock with
     | none=>exact .inl rfl
     | some b=>refine .inr λe=>?_;have:=lt p hp b hn;rw[<-e]at qM;simp at qM;omega
   ·rw[YO h2];exact h.ne p r hp hr mI
 ·rw[Xz];have hn:n=vs.length:=by
   rcases hv'.2 with⟨h1,h2⟩ | ⟨g',cap,cur,h1,_⟩
   ·rw[hv]at h1;cases h1
   ·rw[hv]at h1;injection h1
  rw[hv,hn]at hv'⊢;exact(hv'.stored q nv).1
end
structure qa(w:World)(lo B:Nat)(v:Value)(rows:List (List Nat)):Prop where
 ex:∃A c,v= .slice A rows.length c/\rows.length<=c/\(0<rows.length->∃g,A=some ⟨g,0,none⟩/\lo<=g/\g<B/\
  ∀p,p<rows.length->∃Ar cr,w.cell? ⟨g,p,none⟩=some (.slice Ar (rowAt rows p).length cr)/\(rowAt rows p).length<=cr/\Reads w B 1 Ar (rowAt rows p).length (nM (rowAt rows p))/\∀ad,Ar=some ad->lo<=ad.block)
theorem qa.keep{w w':World}{lo B:Nat}{v:Value}{rows:List (List Nat)}(h:qa w lo B v rows)(hk:∀p:Addr,lo<=p.block->p.block<B->w'.cell? p=w.cell? p):qa w' lo B v rows:=by obtain⟨A,c,e,hc,h0⟩:=h.ex;refine⟨A,c,e,hc,λhp=>?_⟩;obtain⟨g,hA,h1,h2,h3⟩:=h0 hp;refine⟨g,hA,h1,h2,λp hp=>?_⟩;obtain⟨Ar,cr,h4,h5,h6,h7⟩:=h3 p hp;refine⟨Ar,cr,(hk ⟨g,p,none⟩ h1 h2).trans h4,h5,⟨h6.1,λhl=>?_⟩,h7⟩;obtain⟨ad,ea,hb,zX⟩:=h6.2 hl;exact⟨ad,ea,hb,λj u hu=>(hk _ (by rw[lp];exact h7 ad ea) (by rw[lp];exact hb)).trans (zX j u hu)⟩
theorem qa.below{w w':World}{lo B:Nat}{v:Value}{rows:List (List Nat)}(h:qa w lo B v rows)(hb:Below B w w'):qa w' lo B v rows:=h.keep λ_ _ h2=>hb.cell h2
theorem r8.fin{rows:List (List Nat)}{base lo:Nat}{vs:List Value}{v:Value}{w:World}(h:r8 rows base vs v w)(hl:lo<=base):qa w lo w.heap.size v rows:=by
 obtain⟨A,c,e⟩:=lZ h.v;have hc:=oT (e▸h.v);have hv:=h.v;rw[e]at hv;have lN:=hv.lt;have zX:= @World.ownsRow.cells _ _ _ _ _ _ _ hv;refine⟨A,c,by rw[e,h.len],by rw[<-h.len];exact hc,λh0=>?_⟩;obtain⟨g,c',e2,_⟩:=hv.form (by rw[h.len];exact h0);injection e2 with e2;subst e2;have FW:=lN g rfl;refine⟨g,rfl,by omega,FW.2,λp hp=>?_⟩;have hpv:p<vs.length:=by rw[h.len];exact hp
 obtain⟨Ar,cr,er⟩:=lZ (h.own p hpv);have ho:=h.own p hpv;rw[er]at ho;refine⟨Ar,cr,?_,oT ho,Reads.mo ho,λad hA=>YL hl (ho.lt ad.block (by rw[hA];rfl)).1⟩;have h3:=zX (g:=g) rfl p vs[p] (YH hpv);rw[er]at h3;have ha:(⟨g,0,none⟩:Addr).add p=⟨g,p,none⟩:=by unfold Addr.add;split<;>simp_all
 rw[ha]at h3;exact h3
end
section
open Go.RowKit
attribute [local go_sem] lp oB ox
structure ItB(x:It):Prop where
 mY: -30000000000000<=x.mY/\x.mY<=30000000000000
 guess:0<=x.guess/\x.guess<=10995116277760
structure Fb(N n:Nat)(s:me)(long:Int)(ks:List Nat)(go gp:Nat)(B:Nat->Nat)(M:Nat->It)(rows:List (List Nat))(vs:List Value)(v:Value)(w wr:World):Prop where
 st:lq wr N 63 (lj s).toArray
 lg:lq wr (N+1) 270 #[pM long,pI long]
 od:lq wr go 3 (UY ks).toArray
 pt:lq wr gp 273 (Fo B (List.range n)).toArray
 its:C4 n B M wr
 rows:r8 rows (go+1) vs v wr
 b:Below N w wr
 go:N+1<go
 gp:gp<N
 B:∀k,k<n->B k<N
section
variable{N n:Nat}{s:me}{long:Int}{ks:List Nat}{go gp:Nat}{B:Nat->Nat}{M:Nat->It}{rows:List (List Nat)}{vs:List Value}{v:Value}{w wr w':World}
theorem Fb.lR(h:Fb N n s long ks go gp B M rows vs v w wr)(hb:Below wr.heap.size wr w'):Fb N n s long ks go gp B M rows vs v w w':=
 ⟨h.st.below hb h.st.lt,h.lg.below hb h.lg.lt,h.od.below hb h.od.lt,h.pt.below hb h.pt.lt,h.its.lR hb,h.rows.kept hb,h.b.trans (hb.mono (Ra h.st.lt)),h.go,h.gp,h.B⟩
theorem Fb.drew(h:Fb N n s long ks go gp B M rows vs v w wr):Fb N n s long ks go gp B M rows vs v w wr.drew:=h.lR (ZN _ _).drew
theorem Fb.put(h:Fb N n s long ks go gp B M rows vs v w wr)(z:Int):Fb N n s z ks go gp B M rows vs v w ((wr.setCell (N+1,0) (pM z)).setCell (N+1,1) (pI z)):=by
 have g1:=h.go;have g2:=h.gp;refine⟨(h.st.lQ (by show N≠N+1;omega) _).lQ (by show N≠N+1;omega) _,(h.lg.lA 0 _).lA 1 _,(h.od.lQ (by show go≠N+1;omega) _).lQ (by show go≠N+1;omega) _,(h.pt.lQ (by show gp≠N+1;omega) _).lQ (by show gp≠N+1;omega) _,
  ⟨λk hk=>?_,h.its.inj⟩,(h.rows.low (a:=⟨N+1,0,none⟩) (by show N+1<go+1;omega) _).low (a:=⟨N+1,1,none⟩) (by show N+1<go+1;omega) _,(h.b.setCell (p:=(N+1,0)) (by show N<=N+1;omega) _).setCell (p:=(N+1,1)) (by show N<=N+1;omega) _,h.go,h.gp,h.B⟩
 have:=h.B k hk;exact((h.its.b k hk).lQ (by show B k≠N+1;omega) _).lQ (by show B k≠N+1;omega) _
theorem Fb.grown(h:Fb N n s long ks go gp B M rows vs v w wr){row:Option Nat}(hg:wr.grownBy w' row)(hr:∀g,row=some g->go<g){Ba:List (List Nat)}{vs':List Value}{v':Value}(hn:r8 Ba (go+1) vs' v' w'):Fb N n s long ks go gp B M Ba vs' v' w w':=by
 have g1:=h.go;have g2:=h.gp;have ne:∀k,k<=go->some k≠row:=λk hk e=>by have:=hr k e.symm;omega
 refine⟨h.st.grown hg (ne _ (by omega)),h.lg.grown hg (ne _ (by omega)),h.od.grown hg (ne _ (by omega)),h.pt.grown hg (ne _ (by omega)),⟨λk hk=>(h.its.b k hk).grown hg (ne _ (by have:=h.B k hk;omega)),h.its.inj⟩,hn,h.b.grown hg (Ra h.st.lt) (λg e=>by have:=hr g e;omega),h.go,h.gp,h.B⟩
theorem Fb.cellset(h:Fb N n s long ks go gp B M rows vs v w wr){g:Nat}(hg:go<g)(i:Nat)(u:Value){Ba:List (List Nat)}{vs':List Value}(hn:r8 Ba (go+1) vs' v (wr.setCell (g,i) u)):Fb N n s long ks go gp B M Ba vs' v w (wr.setCell (g,i) u):=by have g1:=h.go;have g2:=h.gp;refine⟨h.st.lQ (by show N≠g;omega) _,h.lg.lQ (by show N+1≠g;omega) _,h.od.lQ (by show go≠g;omega) _,h.pt.lQ (by show gp≠g;omega) _,⟨λk hk=>(h.its.b k hk).lQ (by have:=h.B k hk;show B k≠g;omega) _,h.its.inj⟩,hn,h.b.setCell (p:=(g,i)) (by show N<=g;omega) _,h.go,h.gp,h.B⟩
theorem Fb.step(h:Fb N n s long ks go gp B M rows vs v w wr){row:Option Nat}(hg:wr.grownBy w' row)(hr:∀g,row=some g->go<g){g:Nat}(XS:go<g)(i:Nat)(u:Value){Ba:List (List Nat)}{vs':List Value}{v':Value}(hn:r8 Ba (go+1) vs' v' (w'.setCell ⟨g,i,none⟩ u)):Fb N n s long ks go gp B M Ba vs' v' w (w'.setCell ⟨g,i,none⟩ u):=by
 have g1:=h.go;have g2:=h.gp;have ne:∀k,k<=go->some k≠row:=λk hk e=>by have:=hr k e.symm;omega
 refine⟨(h.st.grown hg (ne _ (by omega))).lQ (by show N≠g;omega) _,(h.lg.grown hg (ne _ (by omega))).lQ (by show N+1≠g;omega) _,(h.od.grown hg (ne _ (by omega))).lQ (by show go≠g;omega) _,(h.pt.grown hg (ne _ (by omega))).lQ (by show gp≠g;omega) _,
  ⟨λk hk=>((h.its.b k hk).grown hg (ne _ (by have:=h.B k hk;omega))).lQ (by have:=h.B k hk;show B k≠g;omega) _,h.its.inj⟩,hn,(h.b.grown hg (Ra h.st.lt) (λg e=>by have:=hr g e;omega)).setCell (p:=(g,i)) (by show N<=g;omega) _,h.go,h.gp,h.B⟩
theorem Fb.lQ{w0:World}(h:Fb N n s long ks go gp B M rows vs v w wr)(h0:Fb N n s long ks go gp B M rows vs v w w0){g:Nat}(hg:w0.heap.size<=g)(i:Nat)(u:Value):Fb N n s long ks go gp B M rows vs v w (wr.setCell (g,i) u):=
 h.cellset (by have:=h0.od.lt;omega) i u (h.rows.lQ h0.rows hg i u)
end
structure O7(rows:List (List Nat))(long:Int)(k:Nat):Prop where
 n:rows.length<=k
 r:∀p,(rowAt rows p).length<=k
 l: -(50000000000000*(k:Int))<=long/\long<=50000000000000*k
theorem M1{rows:List (List Nat)}{long:Int}{k kk:Nat}{wrap:Bool}{c:Int}{f:Nat->Int}(h:O7 rows long k)(ho: -50000000000000<=f kk/\f kk<=50000000000000):O7 (qG wrap c f (rows,long) kk).1 (qG wrap c f (rows,long) kk).2 (k+1):=by
 have hb:=h.l;unfold qG
 split
 ·refine⟨by simp;exact h.n,λp=>?_,by show -(50000000000000*((k+1:Nat):Int))<=f kk/\f kk<=50000000000000*((k+1:Nat):Int);omega⟩;show(rowAt (rows++[[kk]]) p).length<=k+1;have hr:=h.r p;unfold rowAt at hr⊢;by_cases hp:p<rows.length
  ·rw[YN hp];omega
  ·rw[YQ (by omega)];cases hq:p-rows.length with
   | zero=>simp
   | succ q=>simp
 ·rename_i mI;have hne0:rows≠[]:=λe=>mI (.inl (by rw[e];rfl));have KJ:0<rows.length:=aCQ.2 hne0;refine⟨by simp;have:=h.n;omega,λp=>?_,by show -(50000000000000*((k+1:Nat):Int))<=long+f kk/\long+f kk<=50000000000000*((k+1:Nat):Int);omega⟩;show(rowAt (rows.dropLast++[(rows.getLast?.getD [])++[kk]]) p).length<=k+1;have hr:=h.r;by_cases hp:p<rows.length-1
  ·have:=hr p;unfold rowAt at this⊢;rw[YN (by simpa using hp),aCD,YP hp];omega
  ·have hl:=hr (rows.length-1);unfold rowAt at hl⊢;rw[YQ (by simp;omega)];have e:rows[rows.length-1]? =rows.getLast?:=(by rw[aCZ]);rw[e]at hl;cases hq:p-rows.dropLast.length with
   | zero=>simp;omega
   | succ q=>simp
theorem V5(rows:List (List Nat))(k:Nat):(rows++[[]]).set rows.length (rowAt (rows++[[]]) rows.length++[k])=rows++[[k]]:=by
 have:rowAt (rows++[[]]) rows.length=[]:=by unfold rowAt;simp
 rw[this];simp
theorem Vw(rows:List (List Nat))(k:Nat)(h:0<rows.length):rows.set (rows.length-1) (rowAt rows (rows.length-1)++[k])=rows.dropLast++[(rows.getLast?.getD [])++[k]]:=by
 have mI:rows≠[]:=aCQ.1 h;have e:rowAt rows (rows.length-1)=rows.getLast?.getD []:=by unfold rowAt;rw[aCZ]
 rw[e];obtain⟨d,x,rfl⟩:∃d x,rows=d++[x]:=⟨rows.dropLast,rows.getLast mI,(aCP mI).symm⟩;simp
def vf(rows:List (List Nat))(wrap:Bool)(c L:Int):Bool:=decide (rows.length=0) || (wrap && decide (c<L))
structure RowsAns(s:me)(c:Int)(l:List me)(M:Nat->It)(w w':World)(e:Ending):Prop where
 ex:∃v,e= .returned v/\qa w' w.heap.size w'.heap.size v (sw s.wrap c (pY M) (nc (pT l) l.length))
 b:Below w.heap.size w w'
theorem RW{s:me}{c v:Int}(h1:vz s.mz)(h2:vz s.my)(hc:CB c)(hv:v<=10995116277760):0<=lF s c v/\lF s c v<=10995116277760:=by have b1:=nP h1 hc;have b2:=nP h2 hc;unfold lF;dsimp only;cases(mj s.mz c).2<;>cases(mj s.my c).2<;>simp only[Y9,Z4,BT]<;>omega
theorem LR{s:me}{c g:Int}(hs:UA s)(hc:CB c)(hg:0<=g/\g<=1099511627776): -10995116277760<=EN s c g/\EN s c g<=10995116277760:=by
 have b1:=nP hs.basis hc;have b2:=nP hs.w hc;unfold EN
 split
 ·exact b1
 ·split
  ·exact b2
  ·omega
theorem RJ{s:me}(hs:zp s):0<=mS s/\mS s<=4398046511104:=by have:=hs.b1;have:=hs.b3;have:=hs.p1;have:=hs.p3;unfold mS;omega
theorem Ry{s:me}{c g:Int}(hs:UA s)(hc:CB c)(hg:0<=g/\g<=1099511627776):ItB (PG s c g):=by have b1:=nP hs.m1 hc;have b3:=nP hs.m3 hc;have bf:=RJ hs.b;refine⟨?_,RW hs.mz hs.my hc (LR hs hc hg).2⟩;show -30000000000000<=(mj s.m3 c).1+(mj s.m1 c).1+mS s/\(mj s.m3 c).1+(mj s.m1 c).1+mS s<=30000000000000;omega
theorem Mz{got:List Cn}(h:∀x∈got,0<=x.lC/\x.lC<=1099511627776)(k:Nat):0<=(qy got k).lC/\(qy got k).lC<=1099511627776:=by
 by_cases hk:k<got.length
 ·have:=h got[k] (YJ hk);unfold qy;rw[YH hk];exact this
 ·unfold qy;rw[ZG (by omega)];simp
theorem P2{l:List me}{c:Int}{got:List Cn}(hs:∀s∈l,UA s)(hc:CB c)(hg:∀x∈got,0<=x.lC/\x.lC<=1099511627776)(k:Nat)(hk:k<l.length):ItB (xr l c got k):=by unfold xr;rw[Jp hk];exact Ry (hs _ (YJ hk)) hc (Mz hg k)
theorem qa.low{w:World}{lo lo' B:Nat}{v:Value}{rows:List (List Nat)}(h:qa w lo B v rows)(hl:lo'<=lo):qa w lo' B v rows:=by obtain⟨A,c,e,hc,h0⟩:=h.ex;refine⟨A,c,e,hc,λhp=>?_⟩;obtain⟨g,hA,h1,h2,h3⟩:=h0 hp;refine⟨g,hA,by omega,h2,λp hp=>?_⟩;obtain⟨Ar,cr,h4,h5,h6,h7⟩:=h3 p hp;exact⟨Ar,cr,h4,h5,h6,λad e=>YL hl (h7 ad e)⟩
end
section
open Go.RowKit
attribute [local go_sem] lp oB ox
theorem C4.upd{n:Nat}{B:Nat->Nat}{M:Nat->It}{w w':World}(h:C4 n B M w){k:Nat}(hk:k<n){y:It}(hb:lq w' (B k) 272 (oE y).toArray)(ho:∀j,j<n->j≠k->lq w' (B j) 272 (oE (M j)).toArray):C4 n B (λj=>if j=k then y else M j) w':=
 ⟨λj hj=>by
  by_cases e:j=k
  ·subst e;simp only[Z4];exact hb
  ·simp only[YO e];exact ho j hj e,h.inj⟩
structure UF(g:Nat)(y:It)(w w':World):Prop where
 b:lq w' g 272 (oE y).toArray
 k:Kp (λx=>x=g) w w'
theorem UF.its{n:Nat}{B:Nat->Nat}{M:Nat->It}{w w':World}{k:Nat}{y:It}(h:UF (B k) y w w')(hi:C4 n B M w)(hk:k<n):C4 n B (λj=>if j=k then y else M j) w':=
 hi.upd hk h.b λj hj mI=>(hi.b j hj).kp h.k λe=>mI (hi.inj j k hj hk e)
theorem UF.kp{n:Nat}{B:Nat->Nat}{w w':World}{k:Nat}{y:It}(h:UF (B k) y w w')(hk:k<n):Kp (isB n B) w w':=h.k.mono λx e=>⟨k,hk,e⟩
structure Ca(w:World)(n:Nat)(B:Nat->Nat)(A:Option Addr)(ks:List Nat):Prop where
 rd:Reads w w.heap.size 1 A ks.length (Fo B ks)
 ne:∀ad,A=some ad->¬isB n B ad.block
theorem Ca.kp{w w':World}{n:Nat}{B:Nat->Nat}{A:Option Addr}{ks:List Nat}(h:Ca w n B A ks)(hk:Kp (isB n B) w w'):Ca w' n B A ks:=
 ⟨⟨
  h.rd.1,λh0=>by
  obtain⟨ad,e,hb,hc⟩:=h.rd.2 h0;exact⟨ad,e,YK hb hk.size,λj u hu=>(hk.cell (p:=ad.add j) (by rw[lp];exact hb) (by rw[lp];exact h.ne ad e)).trans (hc j u hu)⟩⟩,h.ne⟩
theorem Ca.lR{w w':World}{n:Nat}{B:Nat->Nat}{A:Option Addr}{ks:List Nat}(h:Ca w n B A ks)(hk:Below w.heap.size w w'):Ca w' n B A ks:=h.kp (Kp.nD hk _)
theorem Ca.at_{w:World}{n:Nat}{B:Nat->Nat}{A:Option Addr}{ks:List Nat}(h:Ca w n B A ks){i:Nat}(hi:i<ks.length):∃ad,A=some ad/\w.cell? (ad.add i)=some (.pointer (some ⟨B ks[i],0,none⟩)):=by
 obtain⟨ad,u,e,_,hx,hc⟩:=h.rd.at_ hi;have hu:u= .pointer (some ⟨B ks[i],0,none⟩):=by simpa[Fo,hi]using hx.symm
 exact⟨ad,e,hu▸hc⟩
structure AimB(x:It):Prop where
 mz:vz x.s.mz
 my:vz x.s.my
 c:CB x.c
 IU: -9223372036854775808<=x.IU/\x.IU<=9223372036854775807
structure ClI(g g2:Nat)(x:It)(w W:World):Prop where
 it:lq W g 272 (oE x).toArray
 r:lq W g2 270 #[lx,.int .u64 0]
 b:Below g2 w W
theorem ClI.lR{g g2:Nat}{x:It}{w W W':World}(h:ClI g g2 x w W)(hb:Below W.heap.size W W'):ClI g g2 x w W':=⟨h.it.below hb h.it.lt,h.r.below hb h.r.lt,h.b.trans (hb.mono (Ra h.r.lt))⟩
structure HsI(N n:Nat)(B:Nat->Nat)(M:Nat->It)(z:Int)(w W:World):Prop where
 a:lq W N 270 #[pM z,pI z]
 its:C4 n B M W
 b:Below N w W
 lt:∀k,k<n->B k<N
theorem HsI.lR{N n:Nat}{B:Nat->Nat}{M:Nat->It}{z:Int}{w W W':World}(h:HsI N n B M z w W)(hb:Below W.heap.size W W'):HsI N n B M z w W':=
 ⟨h.a.below hb h.a.lt,h.its.lR hb,h.b.trans (hb.mono (Ra h.a.lt)),h.lt⟩
theorem HsI.put{N n:Nat}{B:Nat->Nat}{M:Nat->It}{z y:Int}{w W:World}(h:HsI N n B M z w W):HsI N n B M y w ((W.setCell (N,0) (pM y)).setCell (N,1) (pI y)):=
 ⟨(h.a.lA 0 _).lA 1 _,⟨λk hk=>((h.its.b k hk).lQ (by have:=h.lt k hk;show B k≠N;omega) _).lQ (by have:=h.lt k hk;show B k≠N;omega) _,h.its.inj⟩,(h.b.setCell (p:=(N,0)) (X7 _) _).setCell (p:=(N,1)) (X7 _) _,h.lt⟩
structure HvI(g8 kk n:Nat)(B:Nat->Nat)(M:Nat->It)(x:It)(cl:Int)(w W:World):Prop where
 c:lq W g8 270 #[pM cl,pI cl]
 its:C4 n B M W
 x:lq W (B kk) 272 (oE x).toArray
 k:Kp (isB n B) w W
theorem HvI.lR{g8 kk n:Nat}{B:Nat->Nat}{M:Nat->It}{x:It}{cl:Int}{w W W':World}(h:HvI g8 kk n B M x cl w W)(hb:Below W.heap.size W W'):HvI g8 kk n B M x cl w W':=
 ⟨h.c.below hb h.c.lt,h.its.lR hb,h.x.below hb h.x.lt,h.k.trans (Kp.nD hb _)⟩
end
section
open Go.RowKit
attribute [local go_sem] lp oB ox
def wideC(p:Nat->Int)(m:Nat):List Value:=(List.range m).flatMap λi=>[pM (p i),pI (p i)]
structure FacB(x:It):Prop where
 factor:0<=x.factor/\x.factor<=1000000000000000
 base: -10995116277760<=x.base/\x.base<=10995116277760
structure A1I(N n:Nat)(B:Nat->Nat)(M:Nat->It)(rest z:Int)(w W:World):Prop where
 rs:lq W N 270 #[pM rest,pI rest]
 al:lq W (N+1) 270 #[pM z,pI z]
 its:C4 n B M W
 k:Kp (isB n B) w W
 lt:∀k,k<n->B k<N
 sz:w.heap.size=N
section
variable{N n kk:Nat}{B:Nat->Nat}{M:Nat->It}{y:It}{rest z z2:Int}{w W W':World}
theorem A1I.lR(h:A1I N n B M rest z w W)(hb:Below W.heap.size W W'):A1I N n B M rest z w W':=
 ⟨h.rs.below hb h.rs.lt,h.al.below hb h.al.lt,h.its.lR hb,h.k.trans (Kp.nD hb _),h.lt,h.sz⟩
end
structure A2I(N ga n:Nat)(B:Nat->Nat)(M:Nat->It)(rest z Gy:Int)(w W:World):Prop where
 a:A1I N n B M rest z w W
 am:lq W ga 270 #[pM Gy,pI Gy]
 o1:N+1<ga
theorem A2I.lR{N ga n:Nat}{B:Nat->Nat}{M:Nat->It}{rest z Gy:Int}{w W W':World}(h:A2I N ga n B M rest z Gy w W)(hb:Below W.heap.size W W'):A2I N ga n B M rest z Gy w W':=⟨h.a.lR hb,h.am.below hb h.am.lt,h.o1⟩
structure A3I(N ga gl gP n m:Nat)(B:Nat->Nat)(M:Nat->It)(rest z Gy lf:Int)(p:Nat->Int)(w W:World):Prop where
 a:A1I N n B M rest z w W
 am:lq W ga 270 #[pM Gy,pI Gy]
 lf:lq W gl 270 #[pM lf,pI lf]
 pt:lq W gP 270 (wideC p m).toArray
 o1:N+1<ga
 o2:ga<gl
 o3:gl<gP
section
variable{N ga gl gP n m kk:Nat}{B:Nat->Nat}{M:Nat->It}{y:It}{rest z Gy lf lf2:Int}{p:Nat->Int}{w W W':World}
theorem A3I.lR(h:A3I N ga gl gP n m B M rest z Gy lf p w W)(hb:Below W.heap.size W W'):A3I N ga gl gP n m B M rest z Gy lf p w W':=⟨h.a.lR hb,h.am.below hb h.am.lt,h.lf.below hb h.lf.lt,h.pt.below hb h.pt.lt,h.o1,h.o2,h.o3⟩
end
end
section
structure I8(x:It):Prop where
 held:x.held=false
 c:CB x.c
 mz:vz x.s.mz
 my:vz x.s.my
 mY: -30000000000000<=x.mY/\x.mY<=30000000000000
 base: -10995116277760<=x.base/\x.base<=10995116277760
 guess:0<=x.guess/\x.guess<=10995116277760
 grow:0<=x.s.grow/\x.s.grow<=60
 shrink:0<=x.s.shrink/\x.s.shrink<=60
theorem Pu{grows:Bool}{x:It}(h:I8 x): -1000000000000000<=Cm grows x/\Cm grows x<=1000000000000000:=by
 have hg:=h.grow;have hs:=h.shrink;have hb:=h.base;unfold Cm;cases grows
 ·simp only[Y9,BT];have h1:(x.s.shrink*x.base).natAbs<=60*10995116277760:=by rw[Int.natAbs_mul];exact aB6 (by omega) (by omega)
  omega
 ·simp only[Z4];omega
theorem facI_nn{grows:Bool}{x:It}(h:I8 x)(hs:Az grows x=false):0<=Cm grows x:=by
 have hg:=h.grow;have hsh:=h.shrink;have rW:=h.guess;unfold Az at hs;unfold Cm at hs⊢;cases grows
 ·simp only[Y9,BT]at hs⊢;simp at hs;exact aB7 hsh.1 (by omega)
 ·simp only[Z4];omega
theorem xC{s:me}{c v:Int}(h1:vz s.mz)(h2:vz s.my)(hc:CB c)(h:lF s c v≠v):0<=lF s c v/\lF s c v<=10995116277760:=by
 have b1:=nP h1 hc;have b2:=nP h2 hc
 revert h
 unfold lF;dsimp only;cases(mj s.mz c).2<;>cases(mj s.my c).2<;>simp only[Y9,Z4,BT]<;>omega
theorem TV{s:me}{c v:Int}(h1:vz s.mz)(h2:vz s.my)(hc:CB c)(h:v<=9223372036854775807):0<=lF s c v/\lF s c v<=9223372036854775807:=by have b1:=nP h1 hc;have b2:=nP h2 hc;unfold lF;dsimp only;cases(mj s.mz c).2<;>cases(mj s.my c).2<;>simp only[Y9,Z4,BT]<;>omega
structure OL(grows:Bool)(M M':Nat->It)(ks:List Nat):Prop where
 same:∀k∈ks,qN (M k) (M' k)
 Yj:∀k∈ks,(M' k).factor=Cm grows (M k)
 un:∀k∈ks,(M' k).held=false->Az grows (M k)=false
 wd:(∀k∈ks,(M' k).held=true->0<=(M' k).width/\(M' k).width<=10995116277760)\/(∀k∈ks,(M' k).held=true/\0<=(M' k).width/\(M' k).width<=9223372036854775807)
theorem OL.start{grows:Bool}{M:Nat->It}{ks:List Nat}(h:∀k∈ks,I8 (M k)):OL grows M (uB grows M ks) ks:=by
 have e:∀k∈ks,uB grows M ks k=qJ grows (M k):=λk hk=>YP hk;refine⟨λk _=>D5 grows M ks k,λk hk=>?_,λk hk hh=>?_,.inl λk hk hh=>?_⟩
 ·rw[e k hk];unfold qJ;split<;>rfl
 ·rw[e k hk]at hh;unfold qJ at hh
  split at hh
  ·cases hh
  ·rename_i hn;cases hs:Az grows (M k)
   ·rfl
   ·exact absurd hs hn
 ·rw[e k hk]at hh⊢;have hg:=(h k hk).guess;have hu:=(h k hk).held;unfold qJ at hh⊢
  split at hh
  ·rename_i hs;rw[YP hs];exact hg
  ·exact absurd hh (by simp[hu])
theorem PN(l:List Nat)(f:Nat->Int)(b:Int)(h:∀k∈l,-b<=f k/\f k<=b): -(b*(l.length:Int))<=(l.map f).sum/\(l.map f).sum<=b*l.length:=by
 induction l with
 | nil=>simp
 | cons a t ih=>
  have h1:=h a (by simp);have h2:=ih λk hk=>h k (by simp[hk]);rw[Y6,ZF,ZA];have e:b*((t.length+1:Nat):Int)=b*t.length+b:=by rw[aDE,aB3];simp
  rw[e];omega
theorem aim_bd{grows:Bool}{M:Nat->It}{oth:List Nat}{rest:Int}(hr: -4000000000000000000<=rest/\rest<=4000000000000000000)(hf:∀k∈oth,0<=(M k).factor)(hb:∀k∈oth,-10995116277760<=(M k).base/\(M k).base<=10995116277760)(hle:∀k∈oth,(M k).factor<=tc M It.factor oth)(k:Nat)(hk:k∈oth): -4100000000000000000<=IL M oth rest grows k/\IL M oth rest grows k<=4100000000000000000:=by
 have Xi:=hb k hk;obtain⟨Gy,hamt⟩:∃Gy,Gy=if grows then rest else -rest:=⟨_,rfl⟩
 have qu: -4000000000000000000<=Gy/\Gy<=4000000000000000000:=by rw[hamt];cases grows<;>simp<;>omega
 unfold IL;simp only[];rw[<-hamt]
 split
 ·omega
 ·rename_i hn;have h0:0<Gy/\0<tc M It.factor oth:=by omega
  have h1:0<=xw M Gy (tc M It.factor oth) k:=aCO (aB7 (by omega) (hf k hk)) (by omega);have h2:xw M Gy (tc M It.factor oth) k<=Gy:=aDG h0.2 (aA5 (hle k hk) (by omega));cases grows<;>simp only[Y9,Z4,BT]<;>split<;>omega
theorem OL.round{grows:Bool}{room:Int}{M M':Nat->It}{ks:List Nat}(h:∀k∈ks,I8 (M k))(hr:OL grows M M' ks)(ho:lX M' ks≠[])(ha:∀k∈lX M' ks,IL M' (lX M' ks) (vN room M' ks) grows k<=9223372036854775807):OL grows M (nI room grows M' ks) ks:=by
 have hw:∀k∈ks,(M' k).held=true->0<=(M' k).width/\(M' k).width<=10995116277760:=by
  rcases hr.wd with h1 | h1
  ·exact h1
  ·exfalso;obtain⟨k,hk⟩:=aC0 _ ho;obtain⟨h2,h3⟩:=ZI.1 hk;rw[(h1 k h2).1]at h3;cases h3
 obtain⟨A,hA⟩:∃A,A=qo M' (lX M' ks) (vN room M' ks) grows:=⟨_,rfl⟩;have Pg:∀j∈lX M' ks,A j={M' j with IU:=IL M' (lX M' ks) (vN room M' ks) grows j}:=λj hj=>by rw[hA];unfold qo;rw[YP hj]
 have hrk:∀j∈lX M' ks,nI room grows M' ks j=xo (Bs A (lX M' ks)) (A j):=λj hj=>by unfold nI tq;rw[YP hj,<-hA]
 have TP:∀j,j∉lX M' ks->nI room grows M' ks j=M' j:=λj hj=>by unfold nI tq qo;rw[YO hj,YO hj]
 have AQ:∀k∈ks,(M' k).held=false->k∈lX M' ks:=λk hk hh=>ZI.2 ⟨hk,by rw[hh];rfl⟩;refine⟨λk hk=>(hr.same k hk).trans (De room grows M' ks k),λk hk=>?_,λk hk hh=>?_,?_⟩
 ·by_cases Fh:k∈lX M' ks
  ·rw[hrk k Fh,<-hr.Yj k hk];unfold xo
   split<;>rw[Pg k Fh]
  ·rw[TP k Fh];exact hr.Yj k hk
 ·refine hr.un k hk ?_;cases hx:(M' k).held
  ·rfl
  ·have:=GW A (lX M' ks) k (by rw[hA,Hw];exact hx);have e:nI room grows M' ks k=tq A (lX M' ks) k:=(by unfold nI;rw[<-hA]);rw[e,this]at hh;cases hh
 ·by_cases hz:Bs A (lX M' ks)=0
  ·right;intro k hk;by_cases Fh:k∈lX M' ks
   ·rw[hrk k Fh,hz];unfold xo;rw[YP (.inl rfl)];refine⟨rfl,?_⟩;have hs:=hr.same k hk;show 0<=L0 (A k)/\L0 (A k)<=9223372036854775807;rw[Pg k Fh];exact TV (by rw[hs.s];exact(h k hk).mz) (by rw[hs.s];exact(h k hk).my) (by rw[hs.c];exact(h k hk).c) (ha k Fh)
   ·have hh:(M' k).held=true:=by
     cases hx:(M' k).held
     ·exact absurd (AQ k hk hx) Fh
     ·rfl
    rw[TP k Fh];have:=hw k hk hh;exact⟨hh,by omega,by omega⟩
  ·left;intro k hk hh;by_cases Fh:k∈lX M' ks
   ·rw[hrk k Fh]at hh⊢;unfold xo at hh⊢;by_cases hc:Bs A (lX M' ks)=0\/vo (L0 (A k)) (A k).IU=Bs A (lX M' ks)
    ·rw[YP hc];have mI:L0 (A k)≠(A k).IU:=λe=>by
      rcases hc with hc | hc
      ·exact hz hc
      ·rw[e]at hc;exact hz (by rw[<-hc];unfold vo;rw[YO (by omega),YO (by omega)])
     have hs:=hr.same k hk;show 0<=L0 (A k)/\L0 (A k)<=10995116277760;unfold L0 at mI⊢;have es:(A k).s=(M k).s:=(by rw[Pg k Fh];exact hs.s);have ec:(A k).c=(M k).c:=(by rw[Pg k Fh];exact hs.c);rw[es,ec]at mI⊢;exact xC (h k hk).mz (h k hk).my (h k hk).c mI
    ·rw[YO hc]at hh;rw[Pg k Fh]at hh;have:=(ZI.1 Fh).2;rw[show(M' k).held=true from hh]at this;cases this
   ·rw[TP k Fh]at hh⊢;exact hw k hk hh
end
section
open Go.RowKit
attribute [local go_sem] lp oB ox
structure XI(g4 g5 n:Nat)(B:Nat->Nat)(M:Nat->It)(rm gs:Int)(w W:World):Prop where
 rm:lq W g4 270 #[pM rm,pI rm]
 gs:lq W g5 270 #[pM gs,pI gs]
 its:C4 n B M W
 k:Kp (isB n B) w W
 lt:∀k,k<n->B k<w.heap.size
 o4:w.heap.size<=g4
 o5:w.heap.size<=g5
 ne:g4≠g5
section
variable{g4 g5 n kk:Nat}{B:Nat->Nat}{M:Nat->It}{y:It}{rm gs z:Int}{w W W':World}
theorem XI.lR(h:XI g4 g5 n B M rm gs w W)(hb:Below W.heap.size W W'):XI g4 g5 n B M rm gs w W':=
 ⟨h.rm.below hb h.rm.lt,h.gs.below hb h.gs.lt,h.its.lR hb,h.k.trans (Kp.nD hb _),h.lt,h.o4,h.o5,h.ne⟩
theorem XI.turn(h:XI g4 g5 n B M rm gs w W)(hk:kk<n)(ht:UF (B kk) y W W'):XI g4 g5 n B (λj=>if j=kk then y else M j) rm gs w W':=by have hl:=h.lt kk hk;have h4:=h.o4;have h5:=h.o5;exact⟨h.rm.kp ht.k (by omega),h.gs.kp ht.k (by omega),ht.its h.its hk,h.k.trans (ht.kp hk),h.lt,h.o4,h.o5,h.ne⟩
end
theorem XI.kp{g4 g5 n:Nat}{B:Nat->Nat}{M M2:Nat->It}{rm gs:Int}{w W W':World}(h:XI g4 g5 n B M rm gs w W)(hk:Kp (isB n B) W W')(hi:C4 n B M2 W'):XI g4 g5 n B M2 rm gs w W':=
 ⟨h.rm.kp hk (λ⟨k,hk,e⟩=>by have:=h.lt k hk;have:=h.o4;omega),h.gs.kp hk (λ⟨k,hk,e⟩=>by have:=h.lt k hk;have:=h.o5;omega),hi,h.k.trans hk,h.lt,h.o4,h.o5,h.ne⟩
structure F4I(g4 g5 pc n:Nat)(B:Nat->Nat)(M:Nat->It)(rm gs rs:Int)(oth:List Nat)(v:Value)(w W:World):Prop where
 f:XI g4 g5 n B M rm gs w W
 rs:lq W pc 270 #[pM rs,pI rs]
 own:W.ownsRow w.heap.size 273 1 v oth.length (Fo B oth)
 o:w.heap.size<=pc
 n4:pc≠g4
 n5:pc≠g5
section
variable{g4 g5 pc n kk:Nat}{B:Nat->Nat}{M:Nat->It}{rm gs rs z:Int}{oth:List Nat}{v v':Value}{w W W':World}
theorem F4I.lR(h:F4I g4 g5 pc n B M rm gs rs oth v w W)(hb:Below W.heap.size W W'):F4I g4 g5 pc n B M rm gs rs oth v w W':=
 ⟨h.f.lR hb,h.rs.below hb h.rs.lt,lG h.own hb,h.o,h.n4,h.n5⟩
theorem F4I.put(h:F4I g4 g5 pc n B M rm gs rs oth v w W):F4I g4 g5 pc n B M rm gs z oth v w ((W.setCell (pc,0) (pM z)).setCell (pc,1) (pI z)):=by
 have hb:v.ownBlock≠some pc:=lD h.own h.rs (by decide);exact⟨⟨(h.f.rm.lQ (Ck h.n4) _).lQ (Ck h.n4) _,(h.f.gs.lQ (Ck h.n5) _).lQ (Ck h.n5) _,⟨λk hk=>((h.f.its.b k hk).lQ (by have:=h.f.lt k hk;have:=h.o;show B k≠pc;omega) _).lQ (by have:=h.f.lt k hk;have:=h.o;show B k≠pc;omega) _,h.f.its.inj⟩,
  (h.f.k.setCell (p:=(pc,0)) (.inr h.o) _).setCell (p:=(pc,1)) (.inr h.o) _,h.f.lt,h.f.o4,h.f.o5,h.f.ne⟩,(h.rs.lA 0 _).lA 1 _,ZP (ZP h.own (a:=⟨pc,0,none⟩) hb _) (a:=⟨pc,1,none⟩) hb _,h.o,h.n4,h.n5⟩
theorem F4I.add(h:F4I g4 g5 pc n B M rm gs rs oth v w W)(ho:W'.ownsRow w.heap.size 273 1 v' (oth.length+1) (Fo B oth++[.pointer (some ⟨B kk,0,none⟩)]))(hg:W.grownBy W' v.ownBlock):F4I g4 g5 pc n B M rm gs rs (oth++[kk]) v' w W':=by
 have ne:∀{g:Nat} {cs:Array Value},lq W g 270 cs->some g≠v.ownBlock:=λhb e=>lD h.own hb (by decide) e.symm;refine⟨⟨h.f.rm.grown hg (ne h.f.rm),h.f.gs.grown hg (ne h.f.gs),⟨λk hk=>(h.f.its.b k hk).grown hg (λe=>by have:=(h.own.lt (B k) e.symm).1;have:=h.f.lt k hk;omega),h.f.its.inj⟩,h.f.k.grown hg (λg e=> .inr (h.own.lt g e).1),h.f.lt,h.f.o4,h.f.o5,h.f.ne⟩,h.rs.grown hg (ne h.rs),?_,h.o,h.n4,h.n5⟩;have e1:Fo B (oth++[kk])=Fo B oth++[.pointer (some ⟨B kk,0,none⟩)]:=by simp[Fo]
 rw[e1,YM];exact ho
end
theorem QH(M:Nat->It)(ks:List Nat)(i:Nat)(h:i<ks.length):lX M (ks.take (i+1))=if(M ks[i]).held then lX M (ks.take i)else lX M (ks.take i)++[ks[i]]:=by
 unfold lX;rw[YU h,aCX];cases hh:(M ks[i]).held
 ·simp[VN,hh]
 ·simp[VN,hh]
end
section
theorem Oi(l:List (List Nat))(h:l≠[]):l.dropLast++[l.getLast?.getD []]=l:=by rw[List.getLast?_eq_some_getLast h];exact aCP h
structure Q6(wrap:Bool)(c:Int)(own:Nat->Int)(l:List Nat)(p:List (List Nat)×Int):Prop where
 flat:p.1.flatten=l
 ne:∀r∈p.1,r≠[]
 one:wrap=false->p.1.length<=1
 none:p.1=[]->l=[]
 long:p.1≠[]->p.2=((p.1.getLast?.getD []).map own).sum
 room:wrap=true->∀r∈p.1,∀i,0<i->i<r.length->((r.take (i+1)).map own).sum<=c
 VC:wrap=true->∀(i:Nat) (r s:List Nat),p.1[i]? =some r->p.1[i+1]? =some s->∃k t,s=k::t/\c<(r.map own).sum+own k
theorem Qk(wrap:Bool)(c:Int)(own:Nat->Int)(l:List Nat)(p:List (List Nat)×Int)(k:Nat)(h:Q6 wrap c own l p):Q6 wrap c own (l++[k]) (qG wrap c own p k):=by
 unfold qG;by_cases hc:p.1.length=0\/(wrap=true/\c<p.2+own k)
 ·rw[YP hc];refine⟨by rw[aA8,h.flat];simp,λr hr=>?_,λhw=>?_,λhe=>by simp at he,λ_=>by simp,λhw r hr i h0 h1=>?_,λhw i r s h1 h2=>?_⟩
  ·rcases YW.1 hr with h1 | h1
   ·exact h.ne r h1
   ·simp at h1;rw[h1];simp
  ·rcases hc with hc | hc
   ·simp[hc]
   ·rw[hw]at hc;exact absurd hc.1 (by simp)
  ·rcases YW.1 hr with h2 | h2
   ·exact h.room hw r h2 i h0 h1
   ·simp at h2;rw[h2]at h1;simp at h1;omega
  ·by_cases hi:i+1<p.1.length
   ·rw[YN (by omega)]at h1;rw[YN hi]at h2;exact h.VC hw i r s h1 h2
   ·have hl:i+1=p.1.length:=(by have:=(YT.1 h2).1;simp at this;omega);rw[YN (by omega)]at h1;rw[YQ (by omega),show i+1-p.1.length=0 by omega]at h2;have hs:s=[k]:=(by simpa using h2.symm);refine⟨k,[],hs,?_⟩;have mI:p.1≠[]:=(by intro e;rw[e]at hl;simp at hl);have hr:p.1.getLast?.getD []=r:=(by rw[aCZ,<-hl,aDN,h1];rfl);rcases hc with hc | hc
    ·omega
    ·have:=h.long mI;rw[hr]at this;rw[<-this];exact hc.2
 ·rw[YO hc];have mI:p.1≠[]:=by intro e;apply hc;left;rw[e];rfl
  have Jl:=Oi p.1 mI;obtain⟨b,hb⟩:∃b,b=p.1.getLast?.getD []:=⟨_,rfl⟩;rw[<-hb]at Jl⊢;have hbm:b∈p.1:=by rw[<-Jl];simp
  have hlen:p.1.dropLast.length+1=p.1.length:=by rw[<-aCV List.length Jl];simp
  have VB:=h.long mI;rw[<-hb]at VB;refine⟨?_,λr hr=>?_,λhw=>?_,λhe=>by simp at he,λ_=>?_,λhw r hr i h0 h1=>?_,λhw i r s h1 h2=>?_⟩
  ·have:=h.flat;rw[<-Jl]at this;simp only[aA8,aAG,List.flatten_nil,aAL]at this⊢;rw[<-Yc,this]
  ·rcases YW.1 hr with h1 | h1
   ·exact h.ne r (List.dropLast_subset _ h1)
   ·simp at h1;rw[h1];simp
  ·have:=h.one hw;simp;omega
  ·simp[VB]
  ·rcases YW.1 hr with h2 | h2
   ·exact h.room hw r (List.dropLast_subset _ h2) i h0 h1
   ·simp at h2;rw[h2]at h1⊢;simp at h1;by_cases hi:i+1<=b.length
    ·rw[List.take_append_of_le_length hi];exact h.room hw b hbm i h0 (by omega)
    ·rw[YY (by simp;omega)];have:¬c<p.2+own k:=λh3=>hc (.inr ⟨hw,h3⟩);rw[VB]at this;simp;omega
  ·by_cases hi:i+1<p.1.dropLast.length
   ·rw[YN (by omega)]at h1;rw[YN hi]at h2;rw[aCD,YP (by omega)]at h1;rw[aCD,YP (by omega)]at h2;exact h.VC hw i r s h1 h2
   ·have hl:i+1=p.1.dropLast.length:=(by have:=(YT.1 h2).1;simp at this;simp at hi⊢;omega);rw[YN (by omega)]at h1;rw[YQ (by omega),show i+1-p.1.dropLast.length=0 by omega]at h2;have hs:s=b++[k]:=(by simpa using h2.symm);rw[aCD,YP (by omega)]at h1;have mr:p.1[i+1]? =some b:=(by rw[<-Jl,YQ (by omega),show i+1-p.1.dropLast.length=0 by omega];rfl);obtain⟨j,t,e,hcj⟩:=h.VC hw i r b h1 mr;exact⟨j,t++[k],by rw[hs,e];rfl,hcj⟩
theorem xp(wrap:Bool)(c:Int)(own:Nat->Int)(l:List Nat):Q6 wrap c own l (l.foldl (qG wrap c own) ([],0)):=by
 have:∀(m l:List Nat) (p:List (List Nat)×Int),Q6 wrap c own l p->Q6 wrap c own (l++m) (m.foldl (qG wrap c own) p):=λm=>by
  induction m with
  | nil=>intro l p h;rw[aAL];exact h
  | cons a t ih=>intro l p h;have:=ih (l++[a]) _ (Qk wrap c own l p a h);rw[Yc]at this;exact this
 have h0:Q6 wrap c own [] ([],0):=⟨rfl,by simp,by simp,by simp,by simp,by simp,by simp⟩;exact this l [] _ h0
theorem res_no(l:Ln)(c:Int)(h:(mj l c).2=false):(mj l c).1=0:=by
 unfold mj at*
 split at h
 ·cases h
 ·split at h
  ·cases h
  ·rename_i h1 h2;rw[YO h1,YO h2]
theorem Vb(l:List Nat)(g:Nat->Int)(R:Int)(hG:0<(l.map g).sum):0<=R-(l.map λk=>R*g k / (l.map g).sum).sum/\R-(l.map λk=>R*g k / (l.map g).sum).sum<=l.length:=by
 obtain⟨G,hGe⟩:∃G,G=(l.map g).sum:=⟨_,rfl⟩;rw[<-hGe]at hG⊢;obtain⟨h1,h2⟩:=Mp l g R G hG;rw[<-hGe]at h1 h2;obtain⟨F,hF⟩:∃F,F=(l.map λk=>R*g k / G).sum:=⟨_,rfl⟩;rw[<-hF]at h1 h2⊢;rw[Int.mul_comm R G]at h1 h2;have a1:F<=R:=Int.le_of_mul_le_mul_left h1 hG;refine⟨by omega,?_⟩;have e:(G-1)*(l.length:Int)<=G*l.length:=aCJ (by omega) (by omega);have:G*R<=G*(F+l.length):=by rw[aB3];omega
 have:=Int.le_of_mul_le_mul_left this hG;omega
end
end Go.Proofs.YtjhingednpjogaaGreat
