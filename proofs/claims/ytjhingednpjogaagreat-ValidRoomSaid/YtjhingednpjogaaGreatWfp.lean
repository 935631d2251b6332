/- Lemmas for ValidRoom; laid together by a program. -/
import Derived.Test.YtjhingednpjogaaGreatItb
import Derived.Deep.CutBlock
set_option linter.all false
set_option maxRecDepth 100000
set_option maxHeartbeats 4000000
open Go.RowKit
namespace Go.Proofs.YtjhingednpjogaaGreat
open Go.Proofs.Tryz
section
attribute [local go_sem] lp
def tS(l:List Nd)(p k:Nat):List Int:=((List.range k).filter λj=>nB l j == (p:Int)).map Int.ofNat
theorem ER(l:List Nd)(p k:Nat):tS l p (k+1)=if nB l k=(p:Int)then tS l p k++[(k:Int)]else tS l p k:=by
 unfold tS;rw[Xb,aCX,ZJ]
 split
 ·rw[List.filter_cons_of_pos (by simpa using ‹nB l k=(p:Int)›)];rfl
 ·rw[List.filter_cons_of_neg (by simpa using ‹¬nB l k=(p:Int)›)];simp
theorem Gn(l:List Nd)(p k:Nat):(tS l p k).length<=k:=by unfold tS;rw[Ts];have:=Z9 (λj=>nB l j == (p:Int)) (List.range k);rw[aC4]at this;exact this
theorem vj(l:List Nd)(p:Nat):(oF l p).length<=l.length:=Gn l p l.length
theorem WY:El prog 80 51 (.slice none 0 0) 1 24:=⟨underlying80,by kernel_rfl,rfl,by decide⟩
def CY(n:Nat):Array Value:=(List.replicate n (Value.slice none 0 0)).toArray
theorem QU(n:Nat):madeCells (Value.slice none 0 0).cells (n*1)=CY n:=by apply aAZ.1;rw[aB2];show(madeCells #[.slice none 0 0] n).toList=_;rw[aA2];simp[CY]
theorem RS(l:Nat)(hc:l<=1000000)(w:World):(Instr.makeSlice 80 (.int .i64 (l:Int)) (.int .i64 (l:Int))).run prog w= .ok (.slice w.heap.size l l) (w.alloc (.cells (CY l) 51)):=by obtain⟨i,hi,hz,hs,hb⟩:=Nr WY.info;have h:=S9 (P:=prog) (w:=w) 80 51 i (.slice none 0 0) WY.ht hi hz .i64 .i64 (l:Int) (l:Int) (by omega) (by omega) (by rw[hs];omega) (by rw[hb];omega) (by omega);rw[h,hs,ZM,QU]
structure xR(l:List Nd)(base k:Nat)(vs:List Value)(w:World):Prop where
 len:vs.length=l.length
 own:∀p (h:p<vs.length),w.ownsRow base 3 1 vs[p] (tS l p k).length (lY (tS l p k))
 ne:∀p q (hp:p<vs.length) (hq:q<vs.length),p≠q->vs[p].ownBlock=none\/vs[p].ownBlock≠vs[q].ownBlock
theorem xR.start(l:List Nd)(base:Nat)(w:World):xR l base 0 (List.replicate l.length (.slice none 0 0)) w:=
 ⟨by simp,λp h=>by rw[aCC];exact⟨rfl,.inl ⟨rfl,rfl⟩⟩,λp q hp hq _=>by rw[aCC];exact .inl rfl⟩
theorem xR.kept{l:List Nd}{base k:Nat}{vs:List Value}{w w':World}(h:xR l base k vs w)(hb:Below w.heap.size w w'):xR l base k vs w':=⟨h.len,λp hp=>lG (h.own p hp) hb,h.ne⟩
theorem xR.skip{l:List Nd}{base k:Nat}{vs:List Value}{w:World}(h:xR l base k vs w)(hk:nB l k<0):xR l base (k+1) vs w:=
 ⟨h.len,λp hp=>by rw[ER,YO (by omega)];exact h.own p hp,h.ne⟩
theorem xR.step{l:List Nd}{base k q:Nat}{vs:List Value}{w w1:World}(h:xR l base k vs w)(hq:q<vs.length)(hk:nB l k=(q:Int)){nv:Value} (lV:w1.ownsRow base 3 1 nv ((tS l q k).length+1) (lY (tS l q k)++[.int .i64 (k:Int)])) (hg:w.grownBy w1 vs[q].ownBlock) (qM:nv.ownBlock=vs[q].ownBlock\/w.heap.size<=(nv.ownBlock).getD w.heap.size) {g:Nat} (zG:g<base) (i:Nat) (u:Value): xR l base (k+1) (vs.set q nv) (w1.setCell (g,i) u):=by
 refine⟨by rw[Xz];exact h.len,λp hp=>?_,λp r hp hr mI=>?_⟩
 ·rw[Xz]at hp;refine ZT ?_ (a:=⟨g,i,none⟩) zG u;rw[aBG,ER];by_cases LW:q=p
  ·subst LW;rw[YP rfl,YP hk];simpa[lY]using lV
  ·rw[YO LW,YO (by rw[hk];omega)];exact(h.own p hp).kept hg (h.ne p q hp hq (λe=>LW e.symm))
 ·rw[Xz]at hp hr;rw[aBG,aBG];have lt:∀p (hp:p<vs.length) (b:Nat),vs[p].ownBlock=some b->b<w.heap.size:=λp hp b e=>((h.own p hp).lt b e).2;by_cases h1:q=p
  ·subst h1;rw[YP rfl,YO mI];rcases qM with qM | qM
   ·rw[qM];exact h.ne q r hp hr mI
   ·cases hn:nv.ownBlock with
    | none=>exact .inl rfl
    | some b=>refine .inr λe=>?_;have:=lt r hr b e.symm;rw[hn]at qM;simp at qM;omega
  ·rw[YO h1];by_cases h2:q=r
   ·subst h2;rw[YP rfl];rcases qM with qM | qM
    ·rw[qM];exact h.ne p q hp hr mI
    ·cases hn:vs[p].ownBlock with
     | none=>exact .inl rfl
     | some b=>refine .inr λe=>?_;have:=lt p hp b hn;rw[<-e]at qM;simp at qM;omega
   ·rw[YO h2];exact h.ne p r hp hr mI
structure p9(w:World)(lo B g:Nat)(l:List Nd):Prop where
 lt:g<B
 ge:lo<=g
 at_:∀p,p<l.length->∃A c,w.cell? ⟨g,p,none⟩=some (.slice A (oF l p).length c)/\(oF l p).length<=c/\Reads w B 1 A (oF l p).length (lY (oF l p))/\∀ad,A=some ad->lo<=ad.block
theorem p9.below{w w':World}{lo B g:Nat}{l:List Nd}(h:p9 w lo B g l)(hb:Below B w w'):p9 w' lo B g l:=
 ⟨h.lt,h.ge,λp hp=>by obtain⟨A,c,h1,h2,h3,h4⟩:=h.at_ p hp;exact⟨A,c,(hb.cell (p:=(g,p)) h.lt).trans h1,h2,h3.below hb,h4⟩⟩
theorem p9.more{w:World}{lo B B' g:Nat}{l:List Nd}(h:p9 w lo B g l)(hb:B<=B'):p9 w lo B' g l:=
 ⟨YK h.lt hb,h.ge,λp hp=>by obtain⟨A,c,h1,h2,h3,h4⟩:=h.at_ p hp;exact⟨A,c,h1,h2,h3.more hb,h4⟩⟩
theorem Kj{w:World}{lo:Nat}{p q:Addr}(hp:p.block<lo)(hq:lo<=q.block)(u:Value):(w.setCell p u).cell? q=w.cell? q:=
 Y8 (ZS w p u q.block (by omega))
theorem p9.lA{w:World}{lo B g:Nat}{l:List Nd}(h:p9 w lo B g l){p:Addr}(hp:p.block<lo)(u:Value):p9 (w.setCell p u) lo B g l:=
 ⟨h.lt,h.ge,λq hq=>by obtain⟨A,c,h1,h2,h3,h4⟩:=h.at_ q hq;refine⟨A,c,(Kj hp h.ge u).trans h1,h2,⟨h3.1,λh0=>?_⟩,h4⟩;obtain⟨ad,e,lN,hc⟩:=h3.2 h0;exact⟨ad,e,lN,λj x hx=>(Kj hp (by rw[lp];exact h4 ad e) u).trans (hc j x hx)⟩⟩
theorem xR.fin{l:List Nd}{base g lo:Nat}{vs:List Value}{w:World}(h:xR l base l.length vs w)(hb:lq w g 51 vs.toArray)(h1:lo<=base)(h2:lo<=g):p9 w lo w.heap.size g l:=
 ⟨hb.lt,h2,λp hp=>by
  have hv:p<vs.length:=by rw[h.len];exact hp
  obtain⟨A,c,e⟩:=lZ (h.own p hv);have ho:=h.own p hv;rw[e]at ho;exact⟨A,c,by rw[hb.cell,YR,YH hv,e];rfl,oT ho,Reads.mo ho,λad hA=>YL h1 (ho.lt ad.block (by rw[hA];rfl)).1⟩⟩
structure OI(l:List Nd)(w w':World)(e:Ending):Prop where
 ex:∃g,e= .returned (.slice (some ⟨g,0,none⟩) l.length l.length)/\p9 w' w.heap.size w'.heap.size g l
 b:Below w.heap.size w w'
section
variable(l:List Nd)(A A2:Option Addr)(c m c2:Nat)(view:Int)(w:World)
theorem Ey(hn:l.length<=65536)(hr:Reads w w.heap.size 44 A l.length (lI l)): Calls prog 30 #[.agg #[.slice A l.length c,.slice A2 m c2,view]] w λe w'=>OI l w w' e:=by
 have vS:Hid (lq (w.alloc (.cells #[.slice A l.length c,.slice A2 m c2,view] 25)) w.heap.size 25 #[.slice A l.length c,.slice A2 m c2,view]):=X6 (lq.new _ _ _);have mA:Hid (Below w.heap.size w (w.alloc (.cells #[.slice A l.length c,.slice A2 m c2,view] 25))):=X6 bA;have HP:=X6 (λW (i:Nat) (hi:i<l.length) (hb:Below w.heap.size w W)=>sZ l A A2 c m c2 view W i hi (by omega) ((hr.below hb).more hb.size));have HN:=X6 hn;have tC:∀W:World,(Instr.makeSlice 80 (.int .i64 (l.length:Int)) (.int .i64 (l.length:Int))).run prog W= .ok (.slice W.heap.size l.length l.length) (W.alloc (.cells (CY l.length) 51)):=λW=>RS l.length (by omega) W;clear hr hn;go_enter func30,ntmps30;go_wp2_with fail;go_loopw [4] (λiv wr=>∃k:Nat,k<=l.length/\iv= .int .i64 k/\Hid (∃vs,xR l (w.heap.size+2) k vs wr/\Below w.heap.size w wr/\lq wr w.heap.size 25 #[.slice A l.length c,.slice A2 m c2,view]/\lq wr (w.heap.size+1) 51 vs.toArray)) (λiv _=>l.length-(intOf iv).toNat);case atStart=>exact⟨0,by omega,rfl,X6 ⟨_,xR.start l _ _,mA.alloc (by simp) _,vS.alloc _,lq.at_ _ _ _ (by simp)⟩⟩
 case round=>
  obtain⟨k,hk,rfl,H⟩:=hrel;obtain⟨vs,hvs⟩:=H.out;have HV:=X6 hvs;clear hvs;have bt:=HV.2.2.1.c3;by_cases lN:k<l.length
  ·have d0:decide ((k:Int)<(l.length:Int))=true:=YC (by omega);have pJ:decide (k<l.length)=true:=YC lN;have C2:IntKind.i64.wrap ((k:Int)+1)=(k:Int)+1:=YG _ ⟨by omega,by have:=HN.out;omega⟩;go_wp2_with fail;refine(HP.out _ k lN HV.2.1).mono ?_;rintro e w1 ⟨rfl,rfl⟩;have hp:=qg l k;obtain⟨P,hP⟩:∃P,P=nB l k:=⟨_,rfl⟩;rw[<-hP]at hp;rw[<-hP];have yX:=X6 hP;clear hP;by_cases h0:0<=P
   ·obtain⟨q,rfl⟩:=ZY h0;have e0:decide ((0:Int)<=(q:Int))=true:=YC h0;have e1:decide ((q:Int)<(l.length:Int))=true:=YC (by omega);have Tc:q<vs.length:=(by rw[HV.1.len];omega);have HQ:=X6 Tc;have ho:=HV.1.own q Tc;obtain⟨Aq,cq,hq⟩:=lZ ho;have cv:wr.cell? (w.heap.size+1,q)=some (.slice Aq (tS l q k).length cq):=(by rw[HV.2.2.2.cell,YR,YH Tc,hq]);rw[hq]at ho;have nF:=Gn l q k;have hz:w.heap.size+2<=wr.heap.size:=(by have:=HV.2.2.2.lt;omega);have rT:=X6 (λ(nv:Value) (W1:World)=>(HV.1.kept ((ZN _ _).alloc (X7 _) (.cells #[.slice A l.length c,.slice A2 m c2,view] 25))).step Tc yX.symm (nv:=nv) (w1:=W1) (g:=w.heap.size+1));rw[hq]at rT;have HO:=X6 (ho.alloc (.cells #[.slice A l.length c,.slice A2 m c2,view] 25));have Cu:Hid (w.heap.size+2<=(wr.alloc (.cells #[.slice A l.length c,.slice A2 m c2,view] 25)).heap.size):=X6 (by simp;omega);have XZ:w.heap.size+1<wr.heap.size:=(by omega);have hz3:w.heap.size+1<wr.heap.size+1:=(by omega);clear ho hq Tc;have hk9:(tS l q k).length+1<=4294967296:=(by have:=HN.out;omega);have hgz:wr.heap.size+1=(wr.alloc (.cells #[.slice A l.length c,.slice A2 m c2,view] 25)).heap.size:=(by simp);have HGZ:=X6 hgz;clear hgz;have BW:Hid (lq (wr.alloc (.cells #[.slice A l.length c,.slice A2 m c2,view] 25)) w.heap.size 25 #[.slice A l.length c,.slice A2 m c2,view]/\lq (wr.alloc (.cells #[.slice A l.length c,.slice A2 m c2,view] 25)) (w.heap.size+1) 51 vs.toArray/\Below w.heap.size w (wr.alloc (.cells #[.slice A l.length c,.slice A2 m c2,view] 25))):=X6 ⟨HV.2.2.1.alloc _,HV.2.2.2.alloc _,HV.2.1.alloc HV.2.1.size _⟩;go_wp2_with (at_builtin;refine tN (m:=1) rfl _ _ rfl vv HO.out Cu.out rfl [.int .i64 (k:Int)] rfl HGZ.out rfl (by simp[Value.oneCell']) hk9 (by omega) ?_;intro A' c' w1 lV hB hg qM;have bo:=hg.block;have b1:=BW.out.2.1.grown hg (pg HO.out (by omega));have f1:=b1.frozen q;have v1:=b1.get q (v:= .slice Aq (tS l q k).length cq) (by rw[<-BW.out.2.1.cell];exact(ZV _ _ _ (by simp;omega)).trans cv);have KB:=X6 lV;have JR:=X6 hB;have HG:=X6 hg;have HOB:=X6 qM;have mA:=X6 b1;clear lV hB hg qM b1 bo);go_roundw;case rel=>exact⟨k+1,by omega,by go_num,X6 ⟨_,rT.out _ _ KB.out HG.out HOB.out (by omega) q _,(JR.out _ _ (by omega) BW.out.2.2).setCell (p:=(w.heap.size+1,q)) (by simp) _,(BW.out.1.grown HG.out (pg HO.out (by omega))).lQ (by simp) _,by have:=mA.lA q (.slice A' ((tS l q k).length+1) c');simpa using this⟩⟩
    case measure=>simp[intOf];omega
   ·have e0:decide ((0:Int)<=P)=false:=X9 h0;have HK:=X6 (show nB l k<0 by have:=yX.out;omega);go_wp2_with fail;go_roundw;case rel=>exact⟨k+1,by omega,by go_num,X6 ⟨vs,(HV.1.kept bA).skip HK.out,HV.2.1.alloc HV.2.1.size _,HV.2.2.1.alloc _,HV.2.2.2.alloc _⟩⟩
    case measure=>simp[intOf];omega
  ·have d0:decide ((k:Int)<(l.length:Int))=false:=X9 (by omega);have pJ:decide (k<l.length)=false:=X9 lN;have HL:=X6 (show k=l.length by omega);go_wp2_with fail;go_ret;exact⟨⟨_,rfl,xR.fin (by have:=HV.1;rw[HL.out]at this;exact this) HV.2.2.2 (by omega) (by omega)⟩,HV.2.1⟩
end
end
section
attribute [local go_sem] lp
def DS(cl:Int->Int)(c f m n wv:Int)(lm ln is:Bool):Int×Int×Int:=
 let w0:=bif is then wv else max (c-f-m-n) 0
 bif is || (cl w0 != w0)then
  let left:=bif !lm && !ln then max (c-f-cl w0) 0 / 2 else bif !lm then max (c-f-cl w0-n) 0 else m
  (cl w0,left,c-f-cl w0-left)
 else(w0,m,c-f-w0-m)
def oc(s:me)(c:Int):Int×Int×Int:=DS (lF s c) c (mS s) (mj s.m3 c).1 (mj s.m1 c).1 (mj s.w c).1 (mj s.m3 c).2 (mj s.m1 c).2 (mj s.w c).2
def vA(s:me)(c least lC:Int):Int×Int×Int:=
 (lF s c (if(mj s.w c).2 then(mj s.w c).1 else min lC (max least (c-mS s-(mj s.m3 c).1-(mj s.m1 c).1))),(mj s.m3 c).1,(mj s.m1 c).1)
def Kh(t:Int×Int×Int):Int×Int×Int:=(lU t.1,lU t.2.1,lU t.2.2)
def Kg(t:Int×Int×Int):Bool:=mG t.1 || mG t.2.1 || mG t.2.2
def ou(t:Int×Int×Int):Value:= .tuple #[.agg #[(lU t.1),(lU t.2.1),(lU t.2.2)],.bool (Kg t)]
structure P3(s:me):Prop where
 m1:vz s.m1
 m3:vz s.m3
 w:vz s.w
 mz:vz s.mz
 my:vz s.my
 b:zp s
theorem qx{w w':World}(h:Below w.heap.size w w')(o:Obj):Below w.heap.size w (w'.alloc o):=h.alloc h.size _
theorem vD{s:me}{c v:Int}(h1:vz s.mz)(h2:vz s.my)(hc:CB c)(h:lF s c v≠v):0<=lF s c v/\lF s c v<=10995116277760:=by
 have b1:=nP h1 hc;have b2:=nP h2 hc
 revert h
 unfold lF;dsimp only;cases(mj s.mz c).2<;>cases(mj s.my c).2<;>simp only[Y9,Z4,BT]<;>omega
theorem yL(l:Ln)(c:Int)(w:World)(hl:vz l)(hc:CB c):Calls prog 152 #[.agg #[.int .u8 l.k,l.n],c] w (oD (.tuple #[.int .i64 (mj l c).1,.bool (mj l c).2]) w):=
 (xc l.k l.n c w hl hc).mono λ_ _ ⟨he,hw⟩=>⟨he,hw▸qx (ZN _ _) _⟩
theorem pcl_b(s:me)(c v:Int)(w:World)(h1:vz s.mz)(h2:vz s.my)(hc:CB c):Calls prog 197 #[.agg (lj s).toArray,c,v] w (oD (.int .i64 (lF s c v)) w):=
 (RG s c v w h1 h2 hc).mono λ_ _ ⟨he,hw⟩=>⟨he,hw▸qx (qx (qx (ZN _ _) _) _) _⟩
theorem pfr_b(s:me)(w:World)(hs:zp s):Calls prog 65 #[.agg (lj s).toArray] w λe w'=>(∃d:Int,e= .returned (.tuple #[(mS s),d]))/\Below w.heap.size w w':=
 (Bz s w hs).mono λ_ _ ⟨he,hw⟩=>⟨he,hw▸qx (ZN _ _) _⟩
structure N1(gs gu:Nat)(s:me)(a b c:Int)(w W:World):Prop where
 st:lq W gs 63 (lj s).toArray
 us:lq W gu 40 #[a,b,c]
 b:Below w.heap.size w W
 lo:w.heap.size<=gu
section
variable{gs gu:Nat}{s:me}{a b c:Int}{w W W':World}
theorem N1.lR(h:N1 gs gu s a b c w W)(hb:Below W.heap.size W W'):N1 gs gu s a b c w W':=⟨h.st.below hb h.st.lt,h.us.below hb h.us.lt,h.b.trans (hb.mono h.b.size),h.lo⟩
theorem N1.fin(h:N1 gs gu s a b c w W)(x y z:Int):lq (((W.setCell (gu,0) x).setCell (gu,1) y).setCell (gu,2) z) gu 40 #[x,y,z]/\Below w.heap.size w (((W.setCell (gu,0) x).setCell (gu,1) y).setCell (gu,2) z):=
 ⟨by have h:=((h.us.lA 0 x).lA 1 y).lA 2 z;simpa using h,((h.b.setCell (p:=(gu,0)) h.lo _).setCell (p:=(gu,1)) h.lo _).setCell (p:=(gu,2)) h.lo _⟩
theorem N1.mid(h:N1 gs gu s a b c w W):W.rangeAt gs 0 (lj s):=rk h.st λq v hv=>by
 rw[ZX];exact hv
theorem N1.cells(h:N1 gs gu s a b c w W):(W.cell? (gs,22)=some (.int .u8 s.m3.k)/\W.cell? (gs,23)=s.m3.n)/\(W.cell? (gs,18)=some (.int .u8 s.m1.k)/\W.cell? (gs,19)=s.m1.n)/\W.cell? (gs,4)=some (.int .u8 s.w.k)/\W.cell? (gs,5)=s.w.n:=
 ⟨⟨h.st.get 22 rfl,h.st.get 23 rfl⟩,⟨h.st.get 18 rfl,h.st.get 19 rfl⟩,h.st.get 4 rfl,h.st.get 5 rfl⟩
end
theorem N1.start(s:me)(w:World):N1 w.heap.size (w.heap.size+1) s 0 0 0 w ((w.alloc (.cells (lj s).toArray 63)).alloc (.cells #[lx,lx,lx] 40)):=
 ⟨(lq.new _ _ _).alloc _,lq.at_ _ _ _ (by simp),qx (qx (ZN _ _) _) _,by omega⟩
theorem oJ{fn:Func}{p u:Tmp}(h:fn.results= #[.cell p 40,.tmp u])(tmps:Array Value)(w:World)(g:Nat)(a b c:Int)(v:Value)(hp:tmps.getD p undef= .pointer g)(hu:tmps.getD u undef=v)(hg:lq w g 40 #[a,b,c]): (results fn tmps).run prog w= .ok (.tuple #[.agg #[a,b,c],v]) w:=by rw[aC5 h,hp,hu];have h:=aBM (P:=prog) w g 40 40 #[.int .i64 a,.int .i64 b,.int .i64 c] (0,0) _ hg underlying40 rfl (by kernel_rfl);simp[asAddr,h,Result.andThen]
theorem eqB3(a b c:Bool)(w:World):(Op.equalIn 10000 306 (.agg #[a,b,c]) (.agg #[false,false,false])).run prog w= .ok (!(a || b || c)) w:=by cases a<;>cases b<;>cases c<;>kernel_rfl
theorem Yw(op:BinOp)(x y:Operand)(xs ys:Array Value)(w:World):(eqGuard op 306 x y (.agg xs) (.agg ys)).run prog w= .ok () w:=aDD w op _ x y xs ys (by kernel_rfl)
attribute [local go_sem] eqB3 Yw
theorem LP(a b c:Int)(w:World):Calls prog 198 #[a,b,c] w (oD (ou (a,b,c)) w):=by
 have HU:Hid (ou (a,b,c)= .tuple #[.agg #[(lU a),(lU b),(lU c)],.bool (mG a || mG b || mG c)]):=X6 rfl;rw[HU.out];have HC:=X6 (λx W=>zL x W);obtain⟨x1,Am⟩:∃x,x=lU a:=⟨_,rfl⟩;obtain⟨x2,wC⟩:∃x,x=lU b:=⟨_,rfl⟩;obtain⟨x3,GK⟩:∃x,x=lU c:=⟨_,rfl⟩;obtain⟨y1,Qw⟩:∃x,x=mG a:=⟨_,rfl⟩;obtain⟨y2,JQ⟩:∃x,x=mG b:=⟨_,rfl⟩;obtain⟨y3,hy3⟩:∃x,x=mG c:=⟨_,rfl⟩;rw[<-Am,<-wC,<-GK,<-Qw,<-JQ,<-hy3];have XO:Hid (∀W,Calls prog 64 #[a] W λe w'=>e= .returned (.tuple #[x1,y1])/\W=w'):=X6 (λW=>by rw[Am,Qw];exact HC.out a W);have HE2:Hid (∀W,Calls prog 64 #[b] W λe w'=>e= .returned (.tuple #[x2,y2])/\W=w'):=X6 (λW=>by rw[wC,JQ];exact HC.out b W);have HE3:Hid (∀W,Calls prog 64 #[c] W λe w'=>e= .returned (.tuple #[x3,y3])/\W=w'):=X6 (λW=>by rw[GK,hy3];exact HC.out c W);clear Am wC GK Qw JQ hy3 HU HC;go_enter func198,ntmps198;go_upto_region 2 with(fail)
 go_upto_region 3 with(go_at_call 64;refine(XO.out _).mono ?_;rintro e w' ⟨rfl,rfl⟩);go_upto_region 4 with(go_at_call 64;refine(HE2.out _).mono ?_;rintro e w' ⟨rfl,rfl⟩);go_upto_region 5 with(go_at_call 64;refine(HE3.out _).mono ?_;rintro e w' ⟨rfl,rfl⟩);clear XO HE2 HE3;have HP:Hid ((!(!(y1 || y2 || y3)))=(y1 || y2 || y3)):=X6 (by simp);go_region;all_goals go_wp2_with fail
 all_goals refine ZQ (oJ rfl _ _ w.heap.size x1 x2 x3 _ rfl rfl (by first | exact(lq.at_ _ _ _ rfl).alloc _)) rfl ⟨by first | rfl | (rw[HP.out]) | simp,(qx (qx (ZN _ _) _) _).drew⟩
theorem GD(s:me)(c:Int)(w:World)(hs:P3 s)(hc:CB c):Calls prog 141 #[.agg (lj s).toArray,c] w (oD (ou (oc s c)) w):=by
 obtain⟨x1,x2,x3,y,hv⟩:∃x1 x2 x3 y,ou (oc s c)= .tuple #[.agg #[.int .i64 x1,.int .i64 x2,.int .i64 x3],.bool y]:=⟨_,_,_,_,rfl⟩;rw[hv];have HV:=X6 hv;clear hv;have h3b:=nP hs.m3 hc;have h1b:=nP hs.m1 hc;have Yt:=nP hs.w hc;have vk:=hc.b;obtain⟨m,hm⟩:∃m,m=(mj s.m3 c).1:=⟨_,rfl⟩;obtain⟨lm,wF⟩:∃m,m=(mj s.m3 c).2:=⟨_,rfl⟩;obtain⟨n,hn⟩:∃m,m=(mj s.m1 c).1:=⟨_,rfl⟩;obtain⟨ln,zv⟩:∃m,m=(mj s.m1 c).2:=⟨_,rfl⟩;obtain⟨wv,Jt⟩:∃m,m=(mj s.w c).1:=⟨_,rfl⟩;obtain⟨is,yu⟩:∃m,m=(mj s.w c).2:=⟨_,rfl⟩;obtain⟨f,hf⟩:∃m,m=mS s:=⟨_,rfl⟩;have Eo:0<=f/\f<=4398046511104:=by rw[hf];have:=hs.b.b1;have:=hs.b.b3;have:=hs.b.p1;have:=hs.b.p3;unfold mS;omega
 have RK:Hid (oc s c=DS (lF s c) c f m n wv lm ln is):=X6 (by rw[hm,wF,hn,zv,Jt,yu,hf];rfl);have JT:Hid (∀v,0<=lF s c v/\(lF s c v<=10995116277760\/lF s c v=v)):=X6 (λv=>by
  by_cases he:lF s c v=v
  ·have:0<=lF s c v:=(by unfold lF;dsimp only;omega);exact⟨this,.inr he⟩
  ·have:=vD hs.mz hs.my hc he;exact⟨this.1,.inl this.2⟩)
 have vV:Hid (∀W,Calls prog 152 #[.agg #[.int .u8 s.m3.k,s.m3.n],c] W (oD (.tuple #[m,lm]) W)):=X6 (λW=>by rw[hm,wF];exact yL s.m3 c W hs.m3 hc);have sI:Hid (∀W,Calls prog 152 #[.agg #[.int .u8 s.m1.k,s.m1.n],c] W (oD (.tuple #[n,ln]) W)):=X6 (λW=>by rw[hn,zv];exact yL s.m1 c W hs.m1 hc);have xV:Hid (∀W,Calls prog 152 #[.agg #[.int .u8 s.w.k,s.w.n],c] W (oD (.tuple #[wv,is]) W)):=X6 (λW=>by rw[Jt,yu];exact yL s.w c W hs.w hc);have AK:Hid (∀W,Calls prog 65 #[.agg (lj s).toArray] W λe w'=>(∃d:Int,e= .returned (.tuple #[f,d]))/\Below W.heap.size W w'):=X6 (λW=>by rw[hf];exact pfr_b s W hs.b);have Cb:Hid (∀v W,Calls prog 197 #[.agg (lj s).toArray,c,.int .i64 v] W (oD (.int .i64 (lF s c v)) W)):=X6 (λv W=>pcl_b s c v W hs.mz hs.my hc);rw[<-hm]at h3b;rw[<-hn]at h1b;rw[<-Jt]at Yt;clear hm wF hn zv Jt yu hf hs hc;have hmx:max c 0=c:=by omega
 have Pk:decide (c<0)=false:=X9 (by omega);have hm3:(if 0<=c then c else 0)=c:=YP vk.1;go_enter func141,ntmps141;go_upto_region 1 with(fail)
 obtain⟨gs,rL⟩:∃gs,gs=w.heap.size:=⟨_,rfl⟩;obtain⟨gu,rW⟩:∃gu,gu=w.heap.size+1:=⟨_,rfl⟩;have rK:=X6 (N1.start s w);obtain⟨w1,mW⟩:∃w1,w1=(w.alloc (.cells (lj s).toArray 63)).alloc (.cells #[lx,lx,lx] 40):=⟨_,rfl⟩;have HE:Hid ((w.alloc (.cells (lj s).toArray 63)).alloc (.cells #[lx,lx,lx] 40)=w1):=X6 mW.symm;rw[<-mW,<-rW,<-rL]at rK;rw[<-rW,<-rL];first | rw[HE.out] | (rw[show((w.alloc _).alloc _)=w1 from HE.out])
 clear mW HE rL rW;go_upto_region 2 with(fail)
 obtain⟨⟨EY,Db⟩,⟨EF,DV⟩,y4,y5⟩:=rK.cells;go_upto_region 3 with(go_at_call 152;refine(vV.out _).mono ?_;rintro e w2 ⟨rfl,hb⟩;have tX:=X6 (rK.lR hb);clear hb);clear EY Db EF DV y4 y5;obtain⟨⟨EY,Db⟩,⟨EF,DV⟩,y4,y5⟩:=tX.cells;go_upto_region 4 with(go_at_call 152;refine(sI.out _).mono ?_;rintro e w3 ⟨rfl,hb⟩;have zF:=X6 (tX.lR hb);clear hb);clear EY Db EF DV y4 y5;go_upto_region 5 with(first
  | refine wpList_load_mid rfl 63 (.tmp 2) rfl gs 0 rfl (lj s) _ zF.mid underlying63 rfl (by kernel_rfl) ?_
  | (go_at_call 65;refine(AK.out _).mono ?_;rintro e w4 ⟨⟨d9,rfl⟩,hb⟩;have Gk:=X6 (zF.lR hb);clear hb))
 obtain⟨⟨EY,Db⟩,⟨EF,DV⟩,y4,y5⟩:=Gk.cells;go_upto_region 6 with(go_at_call 152;refine(xV.out _).mono ?_;rintro e w5 ⟨rfl,hb⟩;have xJ:=X6 (Gk.lR hb);clear hb);clear EY Db EF DV y4 y5;clear vV sI xV AK;obtain⟨w0,Nl⟩:∃w0,w0=(bif is then wv else max (c-f-m-n) 0):=⟨_,rfl⟩;have hw0b: -10995116277760<=w0/\w0<=30000000000000:=by rw[Nl];cases is<;>simp only[aCU,aCF]<;>omega
 have G6:=X6 Nl;clear Nl;have wf1:IntKind.i64.wrap (c-f)=c-f:=YG _ ⟨by omega,by omega⟩;go_upto_if 47 with(fail)
 go_cut [12] (λsx wx=>sx= .int .i64 w0/\w5=wx);case first=>
  cases is
  ·obtain⟨D,hD⟩:∃D,D=c-f-m-n:=⟨_,rfl⟩;have HD:Hid (w0=max D 0):=X6 (by rw[G6.out,hD];rfl);have wf2:IntKind.i64.wrap (c-f-m)=c-f-m:=YG _ ⟨by omega,by omega⟩;have wf3:IntKind.i64.wrap (c-f-m-n)=D:=(by rw[hD];exact YG _ ⟨by omega,by omega⟩);clear hD;by_cases hz:D<0
   ·have q1:max D 0=0:=(by omega);have q2:decide (D<0)=true:=YC hz;have q3:(if 0<=D then D else 0)=0:=YO (by omega);have HE:Hid (w0=0):=X6 (by rw[HD.out,q1]);go_wp2_with fail;all_goals go_meet
    all_goals exact⟨by first | rw[HE.out] | (congr 1;have:=HE.out;omega),rfl⟩
   ·have q1:max D 0=D:=(by omega);have q2:decide (D<0)=false:=X9 hz;have q3:(if 0<=D then D else 0)=D:=YP (by omega);have HE:Hid (w0=D):=X6 (by rw[HD.out,q1]);go_wp2_with fail;all_goals go_meet
    all_goals exact⟨by first | rw[HE.out] | (congr 1;have:=HE.out;omega),rfl⟩
  ·have HD:Hid (w0=wv):=X6 (by rw[G6.out];rfl);go_wp2_with fail;go_meet;exact⟨by rw[HD.out],rfl⟩
 case rest=>
 obtain⟨rfl,rfl⟩:=hcut;obtain⟨cl,oR⟩:∃cl,cl=lF s c w0:=⟨_,rfl⟩;have hclb:0<=cl/\cl<=30000000000000:=by rw[oR];have:=JT.out w0;omega
 have UO:Hid (∀W,Calls prog 197 #[.agg (lj s).toArray,c,w0] W (oD (.int .i64 cl) W)):=X6 (λW=>by rw[oR];exact Cb.out w0 W);have HCQ:=X6 oR;clear oR;go_upto_region 9 with(first
  | refine wpList_load_mid rfl 63 (.tmp 2) rfl gs 0 rfl (lj s) _ xJ.mid underlying63 rfl (by kernel_rfl) ?_
  | (go_at_call 197;refine(UO.out _).mono ?_;rintro e w6 ⟨rfl,hb⟩;have II:=X6 (xJ.lR hb);clear hb))
 obtain⟨b,hb⟩:∃b,b=(is || (cl != w0)):=⟨_,rfl⟩;have HB:=X6 hb;clear hb UO;go_upto_region 10 with(fail);go_cut [66] (λsx wx=>sx= .bool b/\w6=wx);case first=>
  cases is
  ·cases d:(cl != w0)
   ·have JR:Hid (b=false):=X6 (by rw[HB.out,d];rfl);go_wp2_with fail;go_meet;exact⟨by rw[JR.out],rfl⟩
   ·have JR:Hid (b=true):=X6 (by rw[HB.out,d];rfl);go_wp2_with fail;go_meet;exact⟨by rw[JR.out],rfl⟩
  ·have JR:Hid (b=true):=X6 (by rw[HB.out];rfl);go_wp2_with fail;go_meet;exact⟨by rw[JR.out],rfl⟩
 case rest=>
 obtain⟨rfl,rfl⟩:=hcut;obtain⟨LF,hLF⟩:∃LF,LF=(bif !lm && !ln then max (c-f-cl) 0 / 2 else bif !lm then max (c-f-cl-n) 0 else m):=⟨_,rfl⟩;have hLb: -10995116277760<=LF/\LF<=30000000000000:=by rw[hLF];cases lm<;>cases ln<;>simp only[aCU,aCF,aDM,Bool.not_false,Bool.and_true,Bool.and_false]<;>omega
 have vQ:=X6 hLF;clear hLF;obtain⟨A,hA⟩:∃A,A=(bif b then cl else w0):=⟨_,rfl⟩;obtain⟨B,hB⟩:∃B,B=(bif b then LF else m):=⟨_,rfl⟩;have hAb: -10995116277760<=A/\A<=30000000000000:=by rw[hA];cases b<;>simp only[aCU,aCF]<;>omega
 have hBb: -10995116277760<=B/\B<=30000000000000:=by rw[hB];cases b<;>simp only[aCU,aCF]<;>omega
 have HN:Hid (oc s c=(A,B,c-f-A-B)):=X6 (by rw[RK.out];unfold DS;dsimp only;rw[<-G6.out,<-HCQ.out,<-HB.out,<-vQ.out,hA,hB];cases b<;>rfl);have HAQ:=X6 hA;have HBQ:=X6 hB;clear hA hB;go_upto_if 66 with(fail)
 go_cut [12,15] (λsa sb wx=>sa= .int .i64 A/\sb= .int .i64 B/\w6=wx);case first=>
  cases b
  ·have HE:Hid (A=w0/\B=m):=X6 ⟨HAQ.out,HBQ.out⟩;go_wp2_with fail;go_meet;exact⟨by rw[HE.1],by rw[HE.2],rfl⟩
  ·have HE:Hid (A=cl/\B=LF):=X6 ⟨HAQ.out,HBQ.out⟩;cases lm
   ·cases ln
    ·obtain⟨V,hV⟩:∃V,V=c-f-cl:=⟨_,rfl⟩;have HD:Hid (LF=max V 0 / 2):=X6 (by rw[vQ.out,hV];rfl);have wf4:IntKind.i64.wrap (c-f-cl)=V:=(by rw[hV];exact YG _ ⟨by omega,by omega⟩);have hVb: -40000000000000<=V/\V<=40000000000000:=(by omega);clear hV;by_cases hz:V<0
     ·have q1:max V 0=0:=(by omega);have q2:decide (V<0)=true:=YC hz;have q3:(if 0<=V then V else 0)=0:=YO (by omega);have HF:Hid (LF=0):=X6 (by rw[HD.out,q1];rfl);go_wp2_with fail;all_goals go_meet
      all_goals exact⟨by rw[HE.1],by first | rw[HE.2,HF.out] | (rw[HE.2];congr 1;have:=HF.out;have:=HD.out;omega),rfl⟩
     ·have q1:max V 0=V:=(by omega);have q2:decide (V<0)=false:=X9 hz;have q3:(if 0<=V then V else 0)=V:=YP (by omega);obtain⟨L,hL⟩:∃L,L=V / 2:=⟨_,rfl⟩;have q4:V.tdiv 2=L:=(by rw[hL];exact aAV (by omega));have q5:IntKind.i64.wrap L=L:=YG _ ⟨by omega,by omega⟩;have HF:Hid (LF=L):=X6 (by rw[HD.out,q1,hL]);clear hL;go_wp2_with fail;all_goals go_meet
      all_goals exact⟨by rw[HE.1],by first | rw[HE.2,HF.out] | (rw[HE.2];congr 1;have:=HF.out;have:=HD.out;omega),rfl⟩
    ·obtain⟨V,hV⟩:∃V,V=c-f-cl-n:=⟨_,rfl⟩;have HD:Hid (LF=max V 0):=X6 (by rw[vQ.out,hV];rfl);have wf4:IntKind.i64.wrap (c-f-cl)=c-f-cl:=YG _ ⟨by omega,by omega⟩;have wf5:IntKind.i64.wrap (c-f-cl-n)=V:=(by rw[hV];exact YG _ ⟨by omega,by omega⟩);clear hV;by_cases hz:V<0
     ·have q1:max V 0=0:=(by omega);have q2:decide (V<0)=true:=YC hz;have q3:(if 0<=V then V else 0)=0:=YO (by omega);have HF:Hid (LF=0):=X6 (by rw[HD.out,q1]);go_wp2_with fail;all_goals go_meet
      all_goals exact⟨by rw[HE.1],by first | rw[HE.2,HF.out] | (rw[HE.2];congr 1;have:=HF.out;have:=HD.out;omega),rfl⟩
     ·have q1:max V 0=V:=(by omega);have q2:decide (V<0)=false:=X9 hz;have q3:(if 0<=V then V else 0)=V:=YP (by omega);have HF:Hid (LF=V):=X6 (by rw[HD.out,q1]);go_wp2_with fail;all_goals go_meet
      all_goals exact⟨by rw[HE.1],by first | rw[HE.2,HF.out] | (rw[HE.2];congr 1;have:=HF.out;have:=HD.out;omega),rfl⟩
   ·have HD:Hid (LF=m):=X6 (by rw[vQ.out];rfl);go_wp2_with fail;go_meet;exact⟨by rw[HE.1],by rw[HE.2,HD.out],rfl⟩
 case rest=>
 obtain⟨rfl,rfl,rfl⟩:=hcut;have wf4:IntKind.i64.wrap (c-f-A)=c-f-A:=YG _ ⟨by omega,by omega⟩;have wf5:IntKind.i64.wrap (c-f-A-B)=c-f-A-B:=YG _ ⟨by omega,by omega⟩;have LX:Hid (∀W,Calls prog 198 #[A,B,.int .i64 (c-f-A-B)] W (oD (.tuple #[.agg #[x1,x2,x3],y]) W)):=X6 (λW=>by have h:=LP A B (c-f-A-B) W;rw[<-HN.out,HV.out]at h;exact h);clear HN HV;go_wp2_with (go_at_call 198;refine(LX.out _).mono ?_;rintro e w8 ⟨rfl,hb⟩;have qW:=X6 (II.lR hb);clear hb;have z0:=qW.us.get 0 rfl;have z1:=qW.us.get 1 rfl;have z2:=qW.us.get 2 rfl;have z0f:=qW.us.frozen 0;have z1f:=qW.us.frozen 1;have z2f:=qW.us.frozen 2);exact ZQ (oJ rfl _ _ gu x1 x2 x3 _ rfl rfl (qW.fin x1 x2 x3).1) rfl ⟨rfl,(qW.fin x1 x2 x3).2⟩
theorem V3(s:me)(c p q:Int)(w:World)(hs:P3 s)(hc:CB c)(hp:0<=p/\p<=1099511627776)(hq:0<=q/\q<=1099511627776):Calls prog 201 #[.agg (lj s).toArray,c,p,q] w (oD (ou (vA s c p q)) w):=by
 obtain⟨x1,x2,x3,y,hv⟩:∃x1 x2 x3 y,ou (vA s c p q)= .tuple #[.agg #[.int .i64 x1,.int .i64 x2,.int .i64 x3],.bool y]:=⟨_,_,_,_,rfl⟩;rw[hv];have HV:=X6 hv;clear hv;have h3b:=nP hs.m3 hc;have h1b:=nP hs.m1 hc;have Yt:=nP hs.w hc;have vk:=hc.b;obtain⟨m,hm⟩:∃m,m=(mj s.m3 c).1:=⟨_,rfl⟩;obtain⟨lm,wF⟩:∃m,m=(mj s.m3 c).2:=⟨_,rfl⟩;obtain⟨n,hn⟩:∃m,m=(mj s.m1 c).1:=⟨_,rfl⟩;obtain⟨ln,zv⟩:∃m,m=(mj s.m1 c).2:=⟨_,rfl⟩;obtain⟨wv,Jt⟩:∃m,m=(mj s.w c).1:=⟨_,rfl⟩;obtain⟨is,yu⟩:∃m,m=(mj s.w c).2:=⟨_,rfl⟩;obtain⟨f,hf⟩:∃m,m=mS s:=⟨_,rfl⟩;have Eo:0<=f/\f<=4398046511104:=by rw[hf];have:=hs.b.b1;have:=hs.b.b3;have:=hs.b.p1;have:=hs.b.p3;unfold mS;omega
 have RK:Hid (vA s c p q=(lF s c (if is then wv else min q (max p (c-f-m-n))),m,n)):=X6 (by rw[hm,hn,Jt,yu,hf];rfl);have JT:Hid (∀v,0<=lF s c v/\(lF s c v<=10995116277760\/lF s c v=v)):=X6 (λv=>by
  by_cases he:lF s c v=v
  ·have:0<=lF s c v:=(by unfold lF;dsimp only;omega);exact⟨this,.inr he⟩
  ·have:=vD hs.mz hs.my hc he;exact⟨this.1,.inl this.2⟩)
 have vV:Hid (∀W,Calls prog 152 #[.agg #[.int .u8 s.m3.k,s.m3.n],c] W (oD (.tuple #[m,lm]) W)):=X6 (λW=>by rw[hm,wF];exact yL s.m3 c W hs.m3 hc);have sI:Hid (∀W,Calls prog 152 #[.agg #[.int .u8 s.m1.k,s.m1.n],c] W (oD (.tuple #[n,ln]) W)):=X6 (λW=>by rw[hn,zv];exact yL s.m1 c W hs.m1 hc);have xV:Hid (∀W,Calls prog 152 #[.agg #[.int .u8 s.w.k,s.w.n],c] W (oD (.tuple #[wv,is]) W)):=X6 (λW=>by rw[Jt,yu];exact yL s.w c W hs.w hc);have AK:Hid (∀W,Calls prog 65 #[.agg (lj s).toArray] W λe w'=>(∃d:Int,e= .returned (.tuple #[f,d]))/\Below W.heap.size W w'):=X6 (λW=>by rw[hf];exact pfr_b s W hs.b);have Cb:Hid (∀v W,Calls prog 197 #[.agg (lj s).toArray,c,.int .i64 v] W (oD (.int .i64 (lF s c v)) W)):=X6 (λv W=>pcl_b s c v W hs.mz hs.my hc);rw[<-hm]at h3b;rw[<-hn]at h1b;rw[<-Jt]at Yt;clear hm wF hn zv Jt yu hf hs hc;have hmx:max c 0=c:=by omega
 have Pk:decide (c<0)=false:=X9 (by omega);have hm3:(if 0<=c then c else 0)=c:=YP vk.1;go_enter func201,ntmps201;go_upto_region 1 with(fail)
 obtain⟨gs,rL⟩:∃gs,gs=w.heap.size:=⟨_,rfl⟩;obtain⟨gu,rW⟩:∃gu,gu=w.heap.size+1:=⟨_,rfl⟩;have rK:=X6 (N1.start s w);obtain⟨w1,mW⟩:∃w1,w1=(w.alloc (.cells (lj s).toArray 63)).alloc (.cells #[lx,lx,lx] 40):=⟨_,rfl⟩;have HE:Hid ((w.alloc (.cells (lj s).toArray 63)).alloc (.cells #[lx,lx,lx] 40)=w1):=X6 mW.symm;rw[<-mW,<-rW,<-rL]at rK;rw[<-rW,<-rL];first | rw[HE.out] | (rw[show((w.alloc _).alloc _)=w1 from HE.out])
 clear mW HE rL rW;go_upto_region 2 with(fail)
 obtain⟨⟨EY,Db⟩,⟨EF,DV⟩,y4,y5⟩:=rK.cells;go_upto_region 3 with(go_at_call 152;refine(vV.out _).mono ?_;rintro e w2 ⟨rfl,hb⟩;have tX:=X6 (rK.lR hb);clear hb);clear EY Db EF DV y4 y5;obtain⟨⟨EY,Db⟩,⟨EF,DV⟩,y4,y5⟩:=tX.cells;go_upto_region 4 with(go_at_call 152;refine(sI.out _).mono ?_;rintro e w3 ⟨rfl,hb⟩;have zF:=X6 (tX.lR hb);clear hb);clear EY Db EF DV y4 y5;go_upto_region 5 with(first
  | refine wpList_load_mid rfl 63 (.tmp 4) rfl gs 0 rfl (lj s) _ zF.mid underlying63 rfl (by kernel_rfl) ?_
  | (go_at_call 65;refine(AK.out _).mono ?_;rintro e w4 ⟨⟨d9,rfl⟩,hb⟩;have Gk:=X6 (zF.lR hb);clear hb))
 obtain⟨⟨EY,Db⟩,⟨EF,DV⟩,y4,y5⟩:=Gk.cells;go_upto_region 6 with(go_at_call 152;refine(xV.out _).mono ?_;rintro e w5 ⟨rfl,hb⟩;have xJ:=X6 (Gk.lR hb);clear hb);clear EY Db EF DV y4 y5;clear vV sI xV AK;obtain⟨w0,Nl⟩:∃w0,w0=(if is then wv else min q (max p (c-f-m-n))):=⟨_,rfl⟩;have G6:=X6 Nl;clear Nl;obtain⟨cl,oR⟩:∃cl,cl=lF s c w0:=⟨_,rfl⟩;have UO:Hid (∀W,Calls prog 197 #[.agg (lj s).toArray,c,w0] W (oD (.int .i64 cl) W)):=X6 (λW=>by rw[oR];exact Cb.out w0 W);have HN:Hid (vA s c p q=(cl,m,n)):=X6 (by rw[RK.out,<-G6.out,<-oR]);have LX:Hid (∀W,Calls prog 198 #[cl,m,n] W (oD (.tuple #[.agg #[x1,x2,x3],y]) W)):=X6 (λW=>by have h2:=LP cl m n W;rw[<-HN.out,HV.out]at h2;exact h2);clear HN HV RK oR Cb JT;go_upto_if 49 with(fail);go_cut [16] (λsx wx=>sx= .int .i64 w0/\w5=wx);case first=>
  cases is
  ·obtain⟨D,hD⟩:∃D,D=c-f-m-n:=⟨_,rfl⟩;have HD:Hid (w0=min q (max p D)):=X6 (by rw[G6.out,hD];rfl);have wf1:IntKind.i64.wrap (c-f)=c-f:=YG _ ⟨by omega,by omega⟩;have wf2:IntKind.i64.wrap (c-f-m)=c-f-m:=YG _ ⟨by omega,by omega⟩;have wf3:IntKind.i64.wrap (c-f-m-n)=D:=(by rw[hD];exact YG _ ⟨by omega,by omega⟩);clear hD;go_wp2_with fail;all_goals go_meet
   all_goals exact⟨by congr 1;have:=HD.out;omega,rfl⟩
  ·have HD:Hid (w0=wv):=X6 (by rw[G6.out];rfl);go_wp2_with fail;go_meet;exact⟨by rw[HD.out],rfl⟩
 case rest=>
 obtain⟨rfl,rfl⟩:=hcut;go_wp2_with (first
  | refine wpList_load_mid rfl 63 (.tmp 4) rfl gs 0 rfl (lj s) _ xJ.mid underlying63 rfl (by kernel_rfl) ?_
  | (go_at_call 197;refine(UO.out _).mono ?_;rintro e w7 ⟨rfl,hb⟩;have HX7:=X6 (xJ.lR hb);clear hb)
  | (go_at_call 198;refine(LX.out _).mono ?_;rintro e w8 ⟨rfl,hb⟩;have qW:=X6 (HX7.lR hb);clear hb;have z0:=qW.us.get 0 rfl;have z1:=qW.us.get 1 rfl;have z2:=qW.us.get 2 rfl;have z0f:=qW.us.frozen 0;have z1f:=qW.us.frozen 1;have z2f:=qW.us.frozen 2))
 exact ZQ (oJ rfl _ _ gu x1 x2 x3 _ rfl rfl (qW.fin x1 x2 x3).1) rfl ⟨rfl,(qW.fin x1 x2 x3).2⟩
end
end Go.Proofs.YtjhingednpjogaaGreat
