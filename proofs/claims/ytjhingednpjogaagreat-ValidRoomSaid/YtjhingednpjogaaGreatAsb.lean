/- Lemmas for ValidRoom; laid together by a program. -/
import Derived.Test.YtjhingednpjogaaGreatAsa
import Derived.Laws.CopyOwn
set_option linter.all false
set_option maxRecDepth 100000
set_option maxHeartbeats 8000000
namespace Go.Proofs.YtjhingednpjogaaGreat
open Go.Proofs.Tryz
open Go.RowKit
attribute [local go_sem] lp
theorem oG{P:Program}{a:Act}{op:Oper}(ty:TypeId)(x y:Operand)(ho:op.op= .store ty x y)(b o:Nat)(cells:List Value)(hx:a.eval x= .pointer (some ⟨b,o,none⟩))(hy:a.eval y= .agg cells.toArray)(w:World) (ht:w.there b o cells.length) (hi:(P.info? ty).map (·.size)=some cells.length) (h1:cells.toArray.all (·.oneCell')=true):(execOp a.eval op).run P w= .ok .skip (w.setCells b o cells):=by have h:=run_storeAt_mid (P:=P) w b o ty cells.toArray (by simpa using ht) (by simpa using hi) h1;unfold execOp;simp only[ho,hx,hy,PZ,h,Yd,Yk]
def yN:me:=⟨0,false,0,0,⟨0,0⟩,⟨0,0⟩,⟨0,0⟩,⟨0,0⟩,⟨0,0⟩,⟨0,0⟩,⟨0,0⟩,⟨0,0⟩,⟨0,0⟩,⟨0,0⟩,0,0,0,0,0,0,0,0,0,0,false,0,0,0,0,0,⟨0,0⟩,[],.slice none 0 0⟩
theorem nE{w:World}{g:Nat}{t:TypeId}{cs:Array Value}{k o:Nat}(h:lq w g t cs)(hk:o+k<=cs.size):w.there g o k:=λj hj=>by
 rw[h.cell (o+j),Z5 (by omega)];exact⟨rfl,h.frozen (o+j)⟩
theorem CI:El prog 129 63 (.agg (lj yN).toArray) 43 320:=⟨underlying129,by kernel_rfl,rfl,by decide⟩
theorem Rk(n:Nat)(hn:n<=300000)(w:World):(Instr.makeSlice 129 (.int .i64 (n:Int)) (.int .i64 (n:Int))).run prog w= .ok (.slice w.heap.size n n) (w.alloc (.cells (pF (List.replicate n yN)).toArray 63)):=by
 obtain⟨i,hi,hz,hs,hb⟩:=Nr CI.info;have h:=S9 (P:=prog) (w:=w) 129 63 i (.agg (lj yN).toArray) CI.ht hi hz .i64 .i64 (n:Int) (n:Int) (by omega) (by omega) (by rw[hs];omega) (by rw[hb];omega) (by omega);have hm:madeCells (Value.agg (lj yN).toArray).cells (n*43)=(pF (List.replicate n yN)).toArray:=by
  apply aBB;intro x;by_cases hx:x<n*43
  ·obtain⟨j,r,hr,rfl⟩:∃j r,r<43/\x=j*43+r:=⟨x / 43,x % 43,by omega,by omega⟩;have hj:j<n:=(by omega);have hm:(j*43+r) % 43=r:=(by omega);rw[Z5 (by rw[aBA];exact hx)];rw[YR,N2 _ j r (by simp;omega) hr,aCC];simp only[madeCells,aCB,aBX];have tH:(Value.agg (lj yN).toArray).cells.size=43:=rfl;rw[tH,hm,YH (by rw[lL];exact hr)];have qU:(lj yN).toArray[r]! =(lj yN)[r]'(by rw[lL];exact hr):=(by rw[getElem!_pos (lj yN).toArray r (by rw[Z1,lL];exact hr)];rfl);show some ((lj yN).toArray[r]!)=_;rw[qU]
  ·rw[ZC (by rw[aBA];omega),YR,ZG (by rw[CU,aCE];omega)]
 rw[h,hs,ZM,hm]
theorem yt{P:Program}(w:World)(g:Nat)(dT sT ty elem:TypeId)(hu:P.underlying dT=some (.slice elem))(tH:(P.info? elem).map (·.size)=some 4)(n:Nat){B:Nat}{A:Option Addr}(ME:Nat)(got:List Cn)(t:TypeId) (hb:lq w g t (ly (List.replicate n yS)).toArray) (hr:Reads w B 4 A got.length (ly got)): ∃v,(Builtin.copy_ #[dT,sT] ty #[.slice g n n,.slice A got.length ME]).run P w= .ok v (w.setRow g (ly (qe got n)).toArray):=by
 rcases A with _ | ad
 ·have h0:got.length=0:=by
   rcases aAN got.length with h | h
   ·exact h
   ·obtain⟨_,e,_⟩:=hr.2 h;cases e
  have hg0:got=[]:=aBI h0;subst hg0;have e:qe [] n=List.replicate n yS:=by rw[AX];simp
  rw[e,setRow_self w g _ t (0,0) hb];cases hq:P.info? elem with
  | none=>simp[hq]at tH
  | some i=>exact⟨_,by simp[Builtin.copy_,aBF hu,Builtin.lenOf,Builtin.firstCells,sizeOf,typeInfo,hq,storeCells];rfl⟩
 ·have oR:(ly (got.take n)).length=Nat.min got.length n*4:=by rw[qn,ZW,Nat.min_comm]
  have rC:=ye (P:=P) w dT sT ty elem 4 g n n ad got.length ME (ly (List.replicate n yS)).toArray t (ly (got.take n)) hu tH hb oR
   (by
    intro j v hv;have hj:(ly got)[j]? =some v:=(by have:ly got=ly (got.take n)++ly (got.drop n):=(by rw[<-sH,ZL]);rw[this,YN (YT.1 hv).1];exact hv);have FU:=(YT.1 hj).1;obtain⟨Rv,e,_,hc⟩:=hr.2 (by rw[qn]at FU;omega);injection e with e;subst e
    exact hc j v hj)
   (by rw[oR,Z1,qn,aCE];exact aBP 4 (Nat.min_le_right _ _)) (At _)
  refine⟨goInt (Nat.min got.length n),rC.trans ?_⟩;congr 2;rw[AX,sH,xj,xj];simp only[List.drop_replicate];congr 3;rw[oR];have:Nat.min got.length n=min got.length n:=rfl;rw[this];omega
def sD(l:List Nd)(k:Int):me:=((l[k.toNat]?).map Nd.s).getD yN
def om(ks:List Int)(q:Nat):Int:=(ks[q]?).getD 0
def BJ(l:List Nd)(ks:List Int)(n j:Nat):List me:=(List.range n).map λq=>if q<j then sD l (om ks q)else yN
theorem CS(l:List Nd)(ks:List Int)(n j:Nat):(BJ l ks n j).length=n:=by simp[BJ]
theorem K7(l:List Nd)(ks:List Int)(n:Nat):BJ l ks n 0=List.replicate n yN:=by
 apply aCH
 ·simp[BJ]
 ·intro i h1 h2;simp[BJ]
theorem aay(l:List Nd)(ks:List Int)(n j:Nat):(BJ l ks n j).set j (sD l (om ks j))=BJ l ks n (j+1):=by
 apply aCH
 ·simp[BJ]
 ·intro i h1 h2;rw[aBG];simp only[BJ,aCG,List.getElem_range];by_cases e:j=i
  ·subst e;rw[YP rfl,YP (by omega)]
  ·rw[YO e];by_cases h:i<j
   ·rw[YP h,YP (by omega)]
   ·rw[YO h,YO (by omega)]
theorem ssF_at(l:List Nd)(ks:List Int)(n k:Nat)(h:k<(BJ l ks n n).length):(BJ l ks n n)[k]=sD l (om ks k):=by
 have h2:k<n:=by rw[CS]at h;exact h
 simp[BJ,h2]
theorem aaB(got:List Cn)(n k:Nat)(h:k<(qe got n).length):(qe got n)[k]=qy got k:=by simp[qe]
structure Jk(gT gU gg gS gG n m2 c2 ml:Nat)(A A2:Option Addr)(view u1 u2 u3:Int)(ss:List me)(xs:List Cn)(w2 W:World):Prop where
 gv:vi gg gS gG n u1 ss xs W
 b:Below w2.heap.size w2 W
 lo:w2.heap.size<=gg/\w2.heap.size<=gS/\w2.heap.size<=gG
 ne:gg≠gS/\gG≠gS/\gg≠gG
section
variable{gT gU gg gS gG n m2 c2 ml k:Nat}{A A2:Option Addr}{view u1 u2 u3:Int}{ss:List me}{xs xs2:List Cn}{w2 W W':World}{s:me}
theorem Jk.lR(h:Jk gT gU gg gS gG n m2 c2 ml A A2 view u1 u2 u3 ss xs w2 W)(hb:Below W.heap.size W W'):Jk gT gU gg gS gG n m2 c2 ml A A2 view u1 u2 u3 ss xs w2 W':=⟨h.gv.lR hb,h.b.trans (hb.mono h.b.size),h.lo,h.ne⟩
theorem Jk.put(h:Jk gT gU gg gS gG n m2 c2 ml A A2 view u1 u2 u3 ss xs w2 W)(hk:k<ss.length):Jk gT gU gg gS gG n m2 c2 ml A A2 view u1 u2 u3 (ss.set k s) xs w2 (W.setCells gS (k*43) (lj s)):=by
 have lQ:∀(vs:List Value) (o:Nat) (W:World) {g:Nat} {t:TypeId} {cs:Array Value},g≠gS->lq W g t cs->lq (W.setCells gS o vs) g t cs:=λvs=>by
  induction vs with
  | nil=>intro o W g t cs _ h;exact h
  | cons v r ih=>intro o W g t cs mI h;exact ih (o+1) _ mI (h.lQ mI v)
 refine⟨⟨lQ _ _ _ h.ne.1 h.gv.g,?_,lQ _ _ _ h.ne.2.1 h.gv.x⟩,mQ h.lo.2.1 _ _ _ _ h.b,h.lo,h.ne⟩;have:=lq.setCells (lj s) (k*43) W _ h.gv.s;rw[stC_set ss k s hk]at this;exact this
theorem Jk.row(h:Jk gT gU gg gS gG n m2 c2 ml A A2 view u1 u2 u3 ss xs w2 W):Jk gT gU gg gS gG n m2 c2 ml A A2 view u1 u2 u3 ss xs2 w2 (W.setRow gG (ly xs2).toArray):=
 ⟨⟨(setRow_other W gG gg _ h.ne.2.2).trans h.gv.g,(setRow_other W gG gS _ (λe=>h.ne.2.1 e.symm)).trans h.gv.s,setRow_heap W gG _ _ _ _ h.gv.x⟩,below_setRow h.b h.lo.2.2 _,h.lo,h.ne⟩
end
structure SJ(gT gU gg gS gG n m2 c2 ml gu gb:Nat)(A A2:Option Addr)(view u1 u2 u3:Int)(ss:List me)(xs:List Cn)(p:Nat->Int×Int×Int)(b:Nat->Bool)(w2 W:World):Prop where
 a:Jk gT gU gg gS gG n m2 c2 ml A A2 view u1 u2 u3 ss xs w2 W
 us:lq W gu 40 (ow p n).toArray
 bo:lq W gb 4 (oH b n).toArray
 ne:(gg≠gu/\gS≠gu/\gG≠gu)/\(gg≠gb/\gS≠gb/\gG≠gb)/\gu≠gb
 lo:w2.heap.size<=gu/\w2.heap.size<=gb
theorem V0(P:Nat->Int×Int×Int)(k:Nat):∀q,(if q<k+1 then P q else(0,0,0))=Rt (λq=>if q<k then P q else(0,0,0)) k (P k) q:=λq=>by
 unfold Rt;dsimp only;by_cases e:q=k
 ·subst e;rw[YP (by omega),YP rfl]
 ·rw[YO e];by_cases h:q<k
  ·rw[YP (by omega),YP h]
  ·rw[YO (by omega),YO h]
theorem NB(P:Nat->Bool)(k:Nat):∀q,(if q<k+1 then P q else false)=(if q=k then P k else if q<k then P q else false):=λq=>by
 by_cases e:q=k
 ·subst e;rw[YP (by omega),YP rfl]
 ·rw[YO e];by_cases h:q<k
  ·rw[YP (by omega),YP h]
  ·rw[YO (by omega),YO h]
theorem aax{p q:Nat->Int×Int×Int}{m:Nat}(h:∀k,k<m->q k=p k):ow p m=ow q m:=by unfold ow;rw[aBT,aBT];congr 1;exact aAX λk hk=>by rw[h k (ZK.1 hk)]
theorem booC_cg{p q:Nat->Bool}{m:Nat}(h:∀k,k<m->q k=p k):oH p m=oH q m:=aAX λk hk=>by rw[h k (ZK.1 hk)]
section
variable{gT gU gg gS gG n m2 c2 ml gu gb:Nat}{A A2:Option Addr}{view u1 u2 u3:Int}{ss:List me}{xs:List Cn}{p p2:Nat->Int×Int×Int}{b b2:Nat->Bool}{w2 W W':World}
theorem SJ.lR(h:SJ gT gU gg gS gG n m2 c2 ml gu gb A A2 view u1 u2 u3 ss xs p b w2 W)(hb:Below W.heap.size W W'):SJ gT gU gg gS gG n m2 c2 ml gu gb A A2 view u1 u2 u3 ss xs p b w2 W':=⟨h.a.lR hb,h.us.below hb h.us.lt,h.bo.below hb h.bo.lt,h.ne,h.lo⟩
theorem SJ.same(h:SJ gT gU gg gS gG n m2 c2 ml gu gb A A2 view u1 u2 u3 ss xs p b w2 W)(h1:∀k,k<n->p2 k=p k)(h2:∀k,k<n->b2 k=b k):SJ gT gU gg gS gG n m2 c2 ml gu gb A A2 view u1 u2 u3 ss xs p2 b2 w2 W:=
 ⟨h.a,by rw[<-aax h1];exact h.us,by rw[<-booC_cg h2];exact h.bo,h.ne,h.lo⟩
theorem SJ.put(h:SJ gT gU gg gS gG n m2 c2 ml gu gb A A2 view u1 u2 u3 ss xs p b w2 W){k:Nat}(hk:k<n)(x y z:Int)(v:Bool):SJ gT gU gg gS gG n m2 c2 ml gu gb A A2 view u1 u2 u3 ss xs (Rt p k (x,y,z)) (λq=>if q=k then v else b q) w2 ((((W.setCell (gu,k*3) x).setCell (gu,k*3+1) y).setCell (gu,k*3+2) z).setCell (gb,k) (.bool v)):=by
 obtain⟨⟨e1,e2,e3⟩,⟨f1,f2,f3⟩,g1⟩:=h.ne;refine⟨⟨((((h.a.gv.lQ e1 e2 e3 _ _).lQ e1 e2 e3 _ _).lQ e1 e2 e3 _ _).lQ f1 f2 f3 _ _),((((h.a.b.setCell (p:=(gu,k*3)) h.lo.1 _).setCell (p:=(gu,k*3+1)) h.lo.1 _).setCell (p:=(gu,k*3+2)) h.lo.1 _).setCell (p:=(gb,k)) h.lo.2 _),h.a.lo,h.a.ne⟩,?_,?_,h.ne,h.lo⟩
 ·have h1:=((h.us.lA (k*3) x).lA (k*3+1) y).lA (k*3+2) z;rw[Lf p n k x y z hk]at h1;exact h1.lQ g1 _
 ·have h1:=(((h.bo.lQ (λe=>g1 e.symm) (.int .i64 x) (p:=(gu,k*3))).lQ (λe=>g1 e.symm) (.int .i64 y) (p:=(gu,k*3+1))).lQ (λe=>g1 e.symm) (.int .i64 z) (p:=(gu,k*3+2))).lA k (.bool v);rw[Wy b n k v hk]at h1;exact h1
end
structure KidsB(l:List Nd)(ks:List Int)(got:List Cn)(u1:Int)(w w':World)(e:Ending):Prop where
 ex:∃gu gb,e= .returned (.tuple #[.slice (some ⟨gu,0,none⟩) ks.length ks.length,.slice (some ⟨gb,0,none⟩) ks.length ks.length])/\lq w' gu 40 (ow (λk=>pE (sD l (om ks k)) u1 (qy got k)) ks.length).toArray/\
  lq w' gb 4 (oH (λk=>pU (sD l (om ks k)) u1 (qy got k)) ks.length).toArray/\w.heap.size<=gu/\w.heap.size<=gb
 b:Below w.heap.size w w'
theorem SG(l:List Nd)(i:Nat)(hi:i<l.length)(zv:l.length<=65536)(A A2 Ak Ag:Option Addr)(c m c2 ck cg:Nat)(view u1 u2 u3:Int)(ks:List Int)(got:List Cn)(w:World) (hr:Reads w w.heap.size 44 A l.length (lI l)) (huv:∀x∈l,∃Au nu cu,x.s.uv= .slice Au nu cu) (kd:Int) (Cl:kd≠2) (Xi:l[i].s.kind=kd) (hk:Reads w w.heap.size 1 Ak ks.length (lY ks)) (pz:∀k∈ks,0<=k/\k<(l.length:Int)) (nF:ks.length<=100000) (hg:Reads w w.heap.size 4 Ag got.length (ly got)) (hc:CB u1) (hs:∀k∈ks,(sD l k).kind≠3->P3 (sD l k)) (hx:∀x∈got,(0<=x.least/\x.least<=1099511627776)/\0<=x.lC/\x.lC<=1099511627776): Calls prog 87 #[.agg #[.slice A l.length c,.slice A2 m c2,view],.int .i64 (i:Int),.agg #[u1,u2,u3],.slice Ak ks.length ck,.slice Ag got.length cg] w λe w'=>KidsB l ks got u1 w w' e:=by
 have HE12:Hid ((kd == 2)=false):=X6 (ZO.2 Cl);clear Cl;have HR:=X6 hr;have B9:=X6 huv;have HK:=X6 hk;have HG:=X6 hg;have E8:=X6 pz;have HS:=X6 hs;have HX:Hid (∀q,(0<=(qy got q).least/\(qy got q).least<=1099511627776)/\0<=(qy got q).lC/\(qy got q).lC<=1099511627776):=X6 (λq=>by
  unfold qy;by_cases h:q<got.length
  ·rw[YH h];exact hx _ (YJ h)
  ·rw[ZG (by omega)];simp)
 have HC:=X6 hc;have tC:=λW=>Rk ks.length (by omega) W;have hmc:=λW=>AT ks.length (by omega) W;have hmu:=λW=>Em ks.length (by omega) W;have hmb:=λW=>Oa ks.length (by omega) W;have Ct:Hid (∀W,Reads W w.heap.size 44 A l.length (lI l)->∃ad:Addr,A=some ad/\ad.block<w.heap.size/\W.cell? (ad.block,(ad.add (i*44)).off+1)=some (.int .u8 kd)):=X6 (λW h=>by obtain⟨ad,rfl,pN⟩:=h.nd rfl hi;have hz:=pN.lt;rw[lp]at hz;refine⟨ad,rfl,hz,?_⟩;rw[<-Xi,<-lp ad (i*44)];exact pN.cs 0 _ rfl);clear hr huv hk hg pz hs hx hc Xi;obtain⟨n,mI⟩:∃n,n=ks.length:=⟨_,rfl⟩;rw[<-mI]at HK nF tC hmc hmu hmb⊢;have HN:=X6 mI;clear mI;obtain⟨ll,hle⟩:∃ll,ll=l.length:=⟨_,rfl⟩;rw[<-hle]at HR E8 hi zv Ct⊢;have uJ:=X6 hle;clear hle;obtain⟨mg,Dd⟩:∃mg,mg=got.length:=⟨_,rfl⟩;rw[<-Dd]at HG⊢;have TH:=X6 Dd;clear Dd;have hi2:(i:Int)<(ll:Int):=by omega
 have hi3:(0:Int)<=(i:Int):=by omega
 have d1:decide ((i:Int)<0)=false:=X9 (by omega);have d2:decide ((ll:Int)<=(i:Int))=false:=X9 (by omega);have d2':decide (ll<=i)=false:=X9 (by omega);go_enter func87,ntmps87;go_upto_region 1 with(fail)
 obtain⟨gT,D4⟩:∃gT,gT=w.heap.size:=⟨_,rfl⟩;obtain⟨gU,hgU⟩:∃gU,gU=w.heap.size+1:=⟨_,rfl⟩;have H2:Hid (lq ((w.alloc (.cells #[.slice A ll c,.slice A2 m c2,view] 25)).alloc (.cells #[u1,u2,u3] 40)) gT 25 #[.slice A ll c,.slice A2 m c2,view]/\lq ((w.alloc (.cells #[.slice A ll c,.slice A2 m c2,view] 25)).alloc (.cells #[u1,u2,u3] 40)) gU 40 #[u1,u2,u3]/\Below w.heap.size w ((w.alloc (.cells #[.slice A ll c,.slice A2 m c2,view] 25)).alloc (.cells #[u1,u2,u3] 40))):=X6
  ⟨(lq.at_ _ _ _ D4).alloc _,lq.at_ _ _ _ (by rw[hgU];simp),qx (qx (ZN _ _) _) _⟩
 obtain⟨w2,ph⟩:∃w2,w2=((w.alloc (.cells #[.slice A ll c,.slice A2 m c2,view] 25)).alloc (.cells #[u1,u2,u3] 40)):=⟨_,rfl⟩;rw[<-ph]at H2⊢;first | rw[<-hgU] | skip
 rw[<-D4];try rw[show gT+1=gU by omega]
 clear ph D4 hgU;have pD:Hid (∀W,Below w2.heap.size w2 W->W.cell? (gT,0)=some (.slice A ll c)/\W.cell? (gU,0)=u1):=X6 (λW h=>⟨(H2.1.below h H2.1.lt).get 0 rfl,(H2.2.1.below h H2.2.1.lt).get 0 rfl⟩);have vY:Hid (∀W,Below w2.heap.size w2 W->Reads W w.heap.size 44 A ll (lI l)/\Reads W w.heap.size 1 Ak n (lY ks)/\Reads W w.heap.size 4 Ag mg (ly got)):=X6 (λW h=>by have hb:=H2.2.2.trans (h.mono H2.2.2.size);exact⟨HR.below hb,HK.below hb,HG.below hb⟩);have y0:=(pD.out w2 (ZN _ _)).1;have y1:=(pD.out w2 (ZN _ _)).2;go_upto_region 3 with(fail)
 clear d1 d2 d2';go_cut [12] (λsx wx=>∃gg gS gG,sx= .pointer (some ⟨gg,0,none⟩)/\Hid (Jk gT gU gg gS gG n m c2 ll A A2 view u1 u2 u3 (BJ l ks n 0) (List.replicate n yS) w2 wx));case first=>
  have E0:Below w2.heap.size w2 w2.drew:=(ZN _ _).drew;refine wp_region_held_drew (S:=λW=>Below w2.heap.size w2 W) (by kernel_rfl) E0 (λhS=>?_);refine GZ 0 ?_;iterate 4
   refine OE (v:=?_) ?_ hS ?_;rotate_left
   ·intro W' lr;have y1:=(pD.out W' lr).2;go_simp;rfl
   try simp only[Act.put,X8,YF,YE,YD,YA,YB]
  refine nk [5,6] ?_;iterate 2
   refine tk hS (y:=by intro W' lr;have y1:=(pD.out W' lr).2;go_simp;rfl) (h:=?_)
  refine np ?_;refine J0 4 7 (λK hK=>?_) (λK hK=>?_)
  ·go_simp;refine ky hK (hS.alloc hS.size _) λhS=>?_;clear hK;refine mV 7 (λK hK=>?_);go_simp;refine ky hK (hS.alloc hS.size _) λhS=>?_;clear hK;refine mV 8 (λK hK=>?_);go_simp;refine ky hK hS λhS=>?_;clear hK;refine mV 9 (λK hK=>?_);go_simp;refine ky hK (hS.alloc hS.size _) λhS=>?_;clear hK;refine nk [10] ?_;refine tk hS (h:=?_);refine np ?_;refine nR ?_;go_wp2_with fail;go_meet;exact⟨_,_,_,rfl,X6 ⟨⟨(by repeat(with_reducible first | exact lq.new _ _ _ | (refine lq.at_ _ _ _ ?_;simp;done) | apply lq.drew | apply lq.alloc)),by rw[K7];exact(by repeat(with_reducible first | exact lq.new _ _ _ | (refine lq.at_ _ _ _ ?_;simp;done) | apply lq.drew | apply lq.alloc)),(by repeat(with_reducible first | exact lq.new _ _ _ | (refine lq.at_ _ _ _ ?_;simp;done) | apply lq.drew | apply lq.alloc))⟩,hS,⟨by omega,by omega,by omega⟩,⟨by omega,by omega,by omega⟩⟩⟩
  ·go_simp;refine ky hK (hS.alloc hS.size _) λhS=>?_;clear hK;refine mV 4 (λK hK=>?_);go_simp;refine ky hK (hS.alloc hS.size _) λhS=>?_;clear hK;refine mV 8 (λK hK=>?_);go_simp;refine ky hK hS λhS=>?_;clear hK;refine mV 9 (λK hK=>?_);go_simp;refine ky hK (hS.alloc hS.size _) λhS=>?_;clear hK;refine nk [10] ?_;refine tk hS (h:=?_);refine np ?_;refine nR ?_;go_wp2_with fail;go_meet;exact⟨_,_,_,rfl,X6 ⟨⟨(by repeat(with_reducible first | exact lq.new _ _ _ | (refine lq.at_ _ _ _ ?_;simp;done) | apply lq.drew | apply lq.alloc)),by rw[K7];exact(by repeat(with_reducible first | exact lq.new _ _ _ | (refine lq.at_ _ _ _ ?_;simp;done) | apply lq.drew | apply lq.alloc)),(by repeat(with_reducible first | exact lq.new _ _ _ | (refine lq.at_ _ _ _ ?_;simp;done) | apply lq.drew | apply lq.alloc))⟩,hS,⟨by omega,by omega,by omega⟩,⟨by omega,by omega,by omega⟩⟩⟩
 case rest=>
 obtain⟨gg,gS,gG,rfl,Tg⟩:=hcut;obtain⟨w3,rfl⟩:∃w3,w3=wc:=⟨_,rfl⟩;clear y0 y1 tC hmc;as_aux_lemma=>
 obtain⟨v45,hcp⟩:=yt (P:=prog) w3 gG 28 28 3 38 yk.ht (by kernel_rfl) n cg got 38 Tg.gv.x (by rw[<-TH.out];exact(vY.out w3 Tg.b).2.2);rw[<-TH.out]at hcp;have z2:w3.cell? (gg,2)=some (.slice gG n n):=Tg.gv.g.get 2 rfl;have HJ1:Hid (Jk gT gU gg gS gG n m c2 ll A A2 view u1 u2 u3 (BJ l ks n 0) (qe got n) w2 (w3.setRow gG (ly (qe got n)).toArray)):=X6 Tg.row;go_upto_region 5 with(fail);obtain⟨w4,wg⟩:∃w4,w4=w3.setRow gG (ly (qe got n)).toArray:=⟨_,rfl⟩;rw[<-wg]at HJ1⊢;clear wg hcp z2 Tg;go_wp2_with fail;go_loopw [48] (λkv wr=>∃j:Nat,j<=n/\kv= .int .i64 j/\Hid (Jk gT gU gg gS gG n m c2 ll A A2 view u1 u2 u3 (BJ l ks n j) (qe got n) w2 wr)) (λkv _=>n-(intOf kv).toNat);case atStart=>exact⟨0,by omega,rfl,HJ1⟩
 case round=>
  obtain⟨j,hj,rfl,HJ⟩:=hrel;clear HJ1;by_cases lN:j<n
  ·as_aux_lemma=>
   have q0:decide ((j:Int)<(n:Int))=true:=YC (by omega);have yF:decide (j<n)=true:=YC lN;have wQ:(j:Int)<(n:Int):=(by omega);have Ep:(0:Int)<=(j:Int):=(by omega);have wi:IntKind.i64.wrap ((j:Int)+1)=(j:Int)+1:=YG _ ⟨by omega,by omega⟩;have FU:j<ks.length:=(by rw[<-HN.out];exact lN);obtain⟨k,hk⟩:∃k,k=ks[j]:=⟨_,rfl⟩;have hkb:=E8.out k (by rw[hk];exact YJ FU);obtain⟨ak,uk,rfl,_,hxk,hck⟩:=(vY.out wr HJ.b).2.1.at_ lN;have ek:uk= .int .i64 k:=(by rw[hk];simpa[lY,FU]using hxk.symm);subst ek;have HKA:Hid (om ks j=k):=X6 (by unfold om;rw[YH FU,hk];rfl);obtain⟨kk,O0⟩:∃kk:Nat,k=(kk:Int):=⟨k.toNat,by omega⟩;clear hxk hk;subst O0;have pz:kk<ll:=(by omega);have hkn2:(kk:Int)<(ll:Int):=(by omega);have hkn3:(0:Int)<=(kk:Int):=(by omega);have d3:decide ((0:Int)<=(kk:Int))=true:=YC (by omega);have d4:decide ((kk:Int)<(ll:Int))=true:=YC (by omega);have d4':decide (kk<ll)=true:=YC pz;have wB:kk<l.length:=(by rw[<-uJ.out];exact pz);obtain⟨s,uH⟩:∃s,s=l[kk].s:=⟨_,rfl⟩;have wZ:Hid (sD l (om ks j)=s):=X6 (by rw[HKA.out,uH];unfold sD;rw[ZM,YH wB];rfl);have HO:Hid ((lj s).toArray.all (·.oneCell')=true):=X6 (by obtain⟨Au,nu,cu,e⟩:=B9.out _ (YJ wB);rw[uH];exact me.one _ e);obtain⟨ad,hA,_⟩:=(vY.out wr HJ.b).1.nd uJ.out wB;subst hA;have xS:Hid (∀W,Below w2.heap.size w2 W->∀q v,(lj s)[q]? =some v->W.cell? ((⟨ad.block,(ad.add (kk*44)).off+1,none⟩:Addr).add q)=some v):=X6 (λW h q v hv=>by
    obtain⟨FT,e,pN⟩:=(vY.out W h).1.nd uJ.out wB;injection e with e;subst e;have hx:=pN.cs q v (by rw[<-uH];exact hv);rw[lp]at hx;have ha:(⟨ad.block,(ad.add (kk*44)).off+1,none⟩:Addr).add q=⟨ad.block,(ad.add (kk*44)).off+(1+q),none⟩:=by
     unfold Addr.add
     split
     ·simp_all
     ·simp;omega
    rw[ha];exact hx)
   clear uH;have y0:=(pD.out wr HJ.b).1;go_upto_region 9 with(fail)
   clear y0 hck d3 d4 d4';have E0:=HJ.lR (ZN _ _).drew;refine mw (λb _ _ W=>if b then Jk gT gU gg gS gG n m c2 ll (some ad) A2 view u1 u2 u3 (BJ l ks n (j+1)) (qe got n) w2 W else Jk gT gU gg gS gG n m c2 ll (some ad) A2 view u1 u2 u3 (BJ l ks n j) (qe got n) w2 W) 12 1000 100000 false true (by kernel_rfl) (by kernel_rfl) (by kernel_rfl) (E0) ?_;refine xN 0 ?_;iterate 10
    refine Ay (v:=?_) ?_ ?_;rotate_left
    ·intro d' u' W' lr;have q:=(show Jk gT gU gg gS gG n m c2 ll (some ad) A2 view u1 u2 u3 (BJ l ks n j) (qe got n) w2 W' from lr);have y0:=(pD.out W' q.b).1;have z1:W'.cell? (gg,1)=some (.slice gS n n):=q.gv.g.get 1 rfl;go_simp;rfl
    try simp only[Act.put,X8,YF,YE,YD,YA,YB]
   refine lW (i:=10) (v:= .agg (lj s).toArray) rfl (by kernel_rfl) (by kernel_rfl) (by kernel_rfl) (λ_ _ _ h=>h) (by rfl) (nX ?_) ?_
   ·refine mK (by rfl) 63 (.tmp 71) rfl (⟨ad.block,(ad.add (kk*44)).off+1,none⟩) rfl (lj s) _ ?_ underlying63 rfl (by kernel_rfl);rintro W' ⟨b',d',u',lr⟩;exact by cases b'<;>exact xS.out W' lr.b
   try simp only[Act.put,X8,YF,YE,YD,YA,YB]
   refine Ce [11] ?_;refine tmF (y:=by intro d' u' W' lr;have q:=(show Jk gT gU gg gS gG n m c2 ll (some ad) A2 view u1 u2 u3 (BJ l ks n j) (qe got n) w2 W' from lr);have y0:=(pD.out W' q.b).1;have z1:W'.cell? (gg,1)=some (.slice gS n n):=q.gv.g.get 1 rfl;go_simp;rfl) (h:=?_);refine Ch ?_;refine mE (i:=12) (d:=true) (λW'=>W'.setCells gS (j*43) (lj s)) rfl (by kernel_rfl) (by rfl) (by rfl) (by kernel_rfl) rfl ?_ (λW' lr=>by have h:=(show Jk gT gU gg gS gG n m c2 ll (some ad) A2 view u1 u2 u3 (BJ l ks n j) (qe got n) w2 W' from lr).put (k:=j) (s:=s) (by rw[CS];exact lN);rw[<-wZ.out,aay,wZ.out]at h;exact h) ?_
   ·intro W' lr;have q:=(show Jk gT gU gg gS gG n m c2 ll (some ad) A2 view u1 u2 u3 (BJ l ks n j) (qe got n) w2 W' from lr);exact oG 63 (.tmp 73) (.tmp 72) rfl gS (j*43) (lj s) rfl rfl W' (nE q.gv.s (by rw[Z1,lL,CU,CS];omega)) (by kernel_rfl) HO.out
   try simp only[Act.put,X8,YF,YE,YD,YA,YB]
   refine F6 (λwS hS=>?_);have V8:=X6 hS;clear hS E0;go_wp2_with fail;go_roundw;case rel=>exact⟨j+1,by omega,by go_num,V8⟩
   case measure=>simp[intOf]<;>omega
  ·as_aux_lemma=>
   have q0:decide ((j:Int)<(n:Int))=false:=X9 (by omega);have yF:decide (j<n)=false:=X9 lN;have hjn:j=n:=(by omega);rw[hjn]at HJ;rw[hjn];clear hjn lN hj;have q1:decide ((n:Int)<(n:Int))=false:=X9 (by omega);obtain⟨ad,rfl,Lp,k1⟩:=Ct.out wr (vY.out wr HJ.b).1;have y0:=(pD.out wr HJ.b).1;have e12:((kd:Int) == 2)=false:=HE12.out;go_upto_region 18 with(fail)
   clear y0 k1 q0 yF q1;have z1:wr.cell? (gg,1)=some (.slice gS n n):=HJ.gv.g.get 1 rfl;go_upto_region 20 with(fail)
   obtain⟨gu,rW⟩:∃gu,gu=wr.heap.size:=⟨_,rfl⟩;obtain⟨gb,zG⟩:∃gb,gb=wr.heap.size+1:=⟨_,rfl⟩;have H5:Hid (SJ gT gU gg gS gG n m c2 ll gu gb (some ad) A2 view u1 u2 u3 (BJ l ks n n) (qe got n) (λ_=>(0,0,0)) (λ_=>false) w2 ((wr.alloc (.cells (ow (λ_=>(0,0,0)) n).toArray 40)).alloc (.cells (oH (λ_=>false) n).toArray 4))):=X6
    ⟨HJ.lR (qx (qx (ZN _ _) _) _),(lq.at_ _ _ _ rW).alloc _,lq.at_ _ _ _ (by rw[zG];simp),by have:=HJ.gv.g.lt;have:=HJ.gv.s.lt;have:=HJ.gv.x.lt;omega,by have:=HJ.b.size;omega⟩
   obtain⟨w5,vn⟩:∃w5,w5=((wr.alloc (.cells (ow (λ_=>(0,0,0)) n).toArray 40)).alloc (.cells (oH (λ_=>false) n).toArray 4)):=⟨_,rfl⟩;rw[<-vn]at H5⊢;first | rw[<-zG] | skip
   rw[<-rW];try rw[show gu+1=gb by omega]
   clear vn rW zG z1 hmu hmb HJ;have z1:w5.cell? (gg,1)=some (.slice gS n n):=H5.a.gv.g.get 1 rfl;go_wp2_with fail;clear z1;obtain⟨wq,rfl⟩:∃wq,wq=wr:=⟨_,rfl⟩;go_loopw [141] (λkv wr=>∃k:Nat,k<=n/\kv= .int .i64 k/\Hid (SJ gT gU gg gS gG n m c2 ll gu gb (some ad) A2 view u1 u2 u3 (BJ l ks n n) (qe got n) (λq=>if q<k then pE (sD l (om ks q)) u1 (qy got q)else(0,0,0)) (λq=>if q<k then pU (sD l (om ks q)) u1 (qy got q)else false) w2 wr)) (λkv _=>n-(intOf kv).toNat);case atStart=>exact⟨0,by omega,rfl,X6 (H5.same (λq _=>by simp) (λq _=>by simp))⟩
   case round=>
    obtain⟨k,hk,rfl,HJ⟩:=hrel;clear H5;by_cases lN:k<n;rotate_left
    ·as_aux_lemma=>
     have q0:decide ((k:Int)<(n:Int))=false:=X9 (by omega);have yF:decide (k<n)=false:=X9 lN;have HEN:Hid (KidsB l ks got u1 w wr (.returned (.tuple #[.slice gu n n,.slice gb n n]))):=X6 (by have h:=HJ.same (p2:=λq=>pE (sD l (om ks q)) u1 (qy got q)) (b2:=λq=>pU (sD l (om ks q)) u1 (qy got q)) (λq hq=>by simp[show q<k by omega]) (λq hq=>by simp[show q<k by omega]);have tH:=H2.2.2.size;refine⟨⟨gu,gb,by rw[HN.out],by rw[<-HN.out];exact h.us,by rw[<-HN.out];exact h.bo,by have:=h.lo.1;omega,by have:=h.lo.2;omega⟩,H2.2.2.trans (h.a.b.mono tH)⟩);go_wp2_with fail;go_ret2;exact HEN.out
    as_aux_lemma=>
    have q0:decide ((k:Int)<(n:Int))=true:=YC (by omega);have yF:decide (k<n)=true:=YC lN;have wQ:(k:Int)<(n:Int):=(by omega);have Ep:(0:Int)<=(k:Int):=(by omega);have wi:IntKind.i64.wrap ((k:Int)+1)=(k:Int)+1:=YG _ ⟨by omega,by omega⟩;have wB:k<ks.length:=(by rw[<-HN.out];exact lN);obtain⟨s,uH⟩:∃s,s=sD l (om ks k):=⟨_,rfl⟩;obtain⟨x,G8⟩:∃x,x=qy got k:=⟨_,rfl⟩;have hlS:=CS l ks n n;have hlX:(qe got n).length=n:=zV got n;have eS:(BJ l ks n n)[k]'(by omega)=s:=(by rw[uH];exact ssF_at l ks n k _);have eX:(qe got n)[k]'(by omega)=x:=(by rw[G8];exact aaB got n k _);have hxb:=HX.out k;rw[<-G8]at hxb;have HSW:Hid (s.kind≠3->P3 s):=X6 (by rw[uH];have h:=HS.out (ks[k]) (YJ wB);have e:om ks k=ks[k]:=(by unfold om;rw[YH wB];rfl);rw[e];exact h);have xS:Hid (∀j v,(lj s)[j]? =some v->wr.cell? ((⟨gS,k*43,none⟩:Addr).add j)=some v):=X6 (by rw[<-eS];exact HJ.a.gv.sty (by omega));have Lv:Hid (pE (sD l (om ks k)) u1 (qy got k)=pE s u1 x/\pU (sD l (om ks k)) u1 (qy got k)=pU s u1 x):=X6 (by rw[uH,G8];exact⟨rfl,rfl⟩);have RB:Hid (s.kind≠3->∀W,vi gg gS gG n u1 (BJ l ks n n) (qe got n) W->Calls prog 143 #[.pointer gg,k] W (oD (ou (oc s u1)) W)):=X6 (λh W hg=>by have:=SA gg gS gG n k u1 _ _ W hg hlS hlX lN nF (by rw[eS];exact HSW.out h) HC.out;rw[eS]at this;exact this);have HFS:Hid (s.kind≠3->∀W,vi gg gS gG n u1 (BJ l ks n n) (qe got n) W->Calls prog 146 #[.pointer gg,k] W (oD (ou (vA s u1 x.least x.lC)) W)):=X6 (λh W hg=>by have:=Wh gg gS gG n k u1 _ _ W hg hlS hlX lN nF (by rw[eS];exact HSW.out h) HC.out (by rw[eX];exact hxb.1) (by rw[eX];exact hxb.2);rw[eS,eX]at this;exact this);have HO:Hid ((lj s).toArray.all (·.oneCell')=true):=X6 (by have hb:=E8.out _ (YJ wB);have e:om ks k=ks[k]:=(by unfold om;rw[YH wB];rfl);have hm:ks[k].toNat<l.length:=(by rw[<-uJ.out];omega);obtain⟨Au,nu,cu,e2⟩:=B9.out _ (YJ hm);rw[uH,e];have e3:sD l ks[k]=l[ks[k].toNat].s:=(by unfold sD;rw[YH hm];rfl);rw[e3];exact me.one _ e2);clear uH G8 eS eX hlS hlX hxb;go_upto_region 23 with(first
     | refine nK rfl 63 (.tmp 144) rfl ⟨gS,k*43,none⟩ rfl (lj s) _ xS.out underlying63 rfl (by kernel_rfl) ?_
     | refine lJ rfl 63 _ _ rfl _ rfl (lj s).toArray rfl rfl 63 _ (by kernel_rfl) rfl HO.out ?_)
    simp only[Act.put];obtain⟨gs,rL⟩:∃gs,gs=wr.heap.size:=⟨_,rfl⟩;have H6:Hid (SJ gT gU gg gS gG n m c2 ll gu gb (some ad) A2 view u1 u2 u3 (BJ l ks n n) (qe got n) (λq=>if q<k then pE (sD l (om ks q)) u1 (qy got q)else(0,0,0)) (λq=>if q<k then pU (sD l (om ks q)) u1 (qy got q)else false) w2 (wr.alloc (.cells (lj s).toArray 63))):=X6 (HJ.lR (qx (ZN _ _) _));have Fq:Hid (lq (wr.alloc (.cells (lj s).toArray 63)) gs 63 (lj s).toArray):=X6 (lq.at_ _ _ _ rL);obtain⟨w6,Iz⟩:∃w6,w6=wr.alloc (.cells (lj s).toArray 63):=⟨_,rfl⟩;rw[<-Iz]at H6 Fq⊢;rw[<-rL];clear Iz rL xS HO HJ;have hgn:=H6.ne.2.2;have hgn2:gb≠gu:=λe=>hgn e.symm;have c0:w6.cell? (gs,0)=some (.int .u8 s.kind):=Fq.get 0 rfl;have c2':w6.cell? (gs,2)=some (.int .u8 s.float):=Fq.get 2 rfl;clear Fq;by_cases h3:s.kind=3
    ·have e3:(s.kind == 3)=true:=ZR.2 h3;have GI:Hid (pE s u1 x=(0,0,0)/\pU s u1 x=false):=X6 (by unfold pE pU;rw[YP h3,YP h3];exact⟨rfl,rfl⟩);clear h3;go_upto_region 30 with(fail)
     have VX:Hid (pE (sD l (om ks k)) u1 (qy got k)=(0,0,0)/\pU (sD l (om ks k)) u1 (qy got k)=false):=X6 (by rw[Lv.1,Lv.2];exact GI.out);go_wp2_with (go_at_call 144;refine(Ri _ _ _).mono ?_;rintro e w7 ⟨rfl,qk⟩;have H7:=X6 (H6.lR qk);clear qk;have z0:=H7.us.get (k*3) (CK _ lN);have z1:=H7.us.get (k*3+1) (CW _ lN);have z2:=H7.us.get (k*3+2) (C1 _ lN);have z3:=H7.bo.get k (by rw[YR];exact xL _ lN);have f0:=H7.us.frozen (k*3);have f1:=H7.us.frozen (k*3+1);have f2:=H7.us.frozen (k*3+2);have f3:=H7.bo.frozen k);go_roundw;case rel=>exact⟨k+1,by omega,by go_num,X6 ((H7.put lN 0 0 0 false).same (λq _=>by rw[V0 (λq=>pE (sD l (om ks q)) u1 (qy got q)) k q,VX.1]) (λq _=>by rw[NB (λq=>pU (sD l (om ks q)) u1 (qy got q)) k q,VX.2]))⟩
     case measure=>simp[intOf]<;>omega
    ·have e3:(s.kind == 3)=false:=ZO.2 h3;have JO:=X6 (RB.out h3);have Eu:=X6 (HFS.out h3);by_cases hf:s.float=0
     ·have ef:(s.float == 0)=true:=ZR.2 hf;have ef2:(s.float != 0)=false:=(by rw[bne,ef];rfl);obtain⟨x1,x2,x3,y,hv,zH,Ff⟩:∃x1 x2 x3 y,ou (oc s u1)= .tuple #[.agg #[.int .i64 x1,.int .i64 x2,.int .i64 x3],.bool y]/\pE s u1 x=(x1,x2,x3)/\pU s u1 x=y:=by
       refine⟨_,_,_,_,rfl,?_,?_⟩
       ·unfold pE Bu;rw[YO h3,YO h3,YO (by simp[hf])];rfl
       ·unfold pU Bu;rw[YO h3,YO h3,YO (by simp[hf])]
      have GI:Hid (pE s u1 x=(x1,x2,x3)/\pU s u1 x=y):=X6 ⟨zH,Ff⟩;rw[hv]at JO;clear h3 hf hv zH Ff Eu;go_upto_region 30 with(fail)
      have VX:Hid (pE (sD l (om ks k)) u1 (qy got k)=(x1,x2,x3)/\pU (sD l (om ks k)) u1 (qy got k)=y):=X6 (by rw[Lv.1,Lv.2];exact GI.out);go_wp2_with (go_at_call 143;refine(JO.out _ H6.a.gv).mono ?_;rintro e w7 ⟨rfl,qk⟩;have H7:=X6 (H6.lR qk);clear qk;have z0:=H7.us.get (k*3) (CK _ lN);have z1:=H7.us.get (k*3+1) (CW _ lN);have z2:=H7.us.get (k*3+2) (C1 _ lN);have z3:=H7.bo.get k (by rw[YR];exact xL _ lN);have f0:=H7.us.frozen (k*3);have f1:=H7.us.frozen (k*3+1);have f2:=H7.us.frozen (k*3+2);have f3:=H7.bo.frozen k);go_roundw;case rel=>exact⟨k+1,by omega,by go_num,X6 ((H7.put lN x1 x2 x3 y).same (λq _=>by rw[V0 (λq=>pE (sD l (om ks q)) u1 (qy got q)) k q,VX.1]) (λq _=>by rw[NB (λq=>pU (sD l (om ks q)) u1 (qy got q)) k q,VX.2]))⟩
      case measure=>simp[intOf]<;>omega
     ·have ef:(s.float == 0)=false:=ZO.2 hf;have ef2:(s.float != 0)=true:=(by rw[bne,ef];rfl);obtain⟨x1,x2,x3,y,hv,zH,Ff⟩:∃x1 x2 x3 y,ou (vA s u1 x.least x.lC)= .tuple #[.agg #[.int .i64 x1,.int .i64 x2,.int .i64 x3],.bool y]/\pE s u1 x=(x1,x2,x3)/\pU s u1 x=y:=by
       refine⟨_,_,_,_,rfl,?_,?_⟩
       ·unfold pE Bu;rw[YO h3,YO h3,YP hf];rfl
       ·unfold pU Bu;rw[YO h3,YO h3,YP hf]
      have GI:Hid (pE s u1 x=(x1,x2,x3)/\pU s u1 x=y):=X6 ⟨zH,Ff⟩;rw[hv]at Eu;clear h3 hf hv zH Ff JO;go_upto_region 30 with(fail)
      have VX:Hid (pE (sD l (om ks k)) u1 (qy got k)=(x1,x2,x3)/\pU (sD l (om ks k)) u1 (qy got k)=y):=X6 (by rw[Lv.1,Lv.2];exact GI.out);go_wp2_with (go_at_call 146;refine(Eu.out _ H6.a.gv).mono ?_;rintro e w7 ⟨rfl,qk⟩;have H7:=X6 (H6.lR qk);clear qk;have z0:=H7.us.get (k*3) (CK _ lN);have z1:=H7.us.get (k*3+1) (CW _ lN);have z2:=H7.us.get (k*3+2) (C1 _ lN);have z3:=H7.bo.get k (by rw[YR];exact xL _ lN);have f0:=H7.us.frozen (k*3);have f1:=H7.us.frozen (k*3+1);have f2:=H7.us.frozen (k*3+2);have f3:=H7.bo.frozen k);go_roundw;case rel=>exact⟨k+1,by omega,by go_num,X6 ((H7.put lN x1 x2 x3 y).same (λq _=>by rw[V0 (λq=>pE (sD l (om ks q)) u1 (qy got q)) k q,VX.1]) (λq _=>by rw[NB (λq=>pU (sD l (om ks q)) u1 (qy got q)) k q,VX.2]))⟩
      case measure=>simp[intOf]<;>omega
end Go.Proofs.YtjhingednpjogaaGreat
