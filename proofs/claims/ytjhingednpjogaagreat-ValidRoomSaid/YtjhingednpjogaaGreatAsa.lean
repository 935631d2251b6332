/- Lemmas for ValidRoom; laid together by a program. -/
import Derived.Test.YtjhingednpjogaaGreatWfp
set_option linter.all false
set_option maxRecDepth 100000
set_option maxHeartbeats 2000000
namespace Go.Proofs.YtjhingednpjogaaGreat
open Go.Proofs.Tryz
open Go.RowKit
attribute [local go_sem] lp
def pF(l:List me):List Value:=l.flatMap lj
theorem CU(l:List me):(pF l).length=l.length*43:=by
 induction l with
 | nil=>rfl
 | cons a t ih=>
  have:pF (a::t)=lj a++pF t:=by simp[pF]
  rw[this,YM,ih,lL,ZA];omega
theorem CJ(a b:List me):pF (a++b)=pF a++pF b:=by simp[pF]
theorem N2(l:List me)(k j:Nat)(hk:k<l.length)(hj:j<43):(pF l)[k*43+j]? =(lj l[k])[j]?:=by
 have e:l=l.take k++l[k]::l.drop (k+1):=by rw[<-ZH hk,ZL]
 have e2:pF l=pF (l.take k)++(lj l[k]++pF (l.drop (k+1))):=by
  have:pF l=pF (l.take k++l[k]::l.drop (k+1)):=by rw[<-e]
  rw[this,CJ];rfl
 have hl:(pF (l.take k)).length=k*43:=by rw[CU,ZW];congr 1;omega
 rw[e2,YQ (by omega),hl,show k*43+j-k*43=j by omega,YN (by rw[lL];exact hj)]
theorem stC_set(l:List me)(k:Nat)(s:me)(hk:k<l.length):yG (pF l).toArray (k*43) (lj s)=(pF (l.set k s)).toArray:=by
 have e:l=l.take k++l[k]::l.drop (k+1):=by rw[<-ZH hk,ZL]
 have e2:pF l=pF (l.take k)++lj l[k]++pF (l.drop (k+1)):=by
  have:pF l=pF (l.take k++l[k]::l.drop (k+1)):=by rw[<-e]
  rw[this,CJ,Yc];rfl
 have e3:pF (l.set k s)=pF (l.take k)++lj s++pF (l.drop (k+1)):=by rw[List.set_eq_take_append_cons_drop,YP hk,CJ,Yc];rfl
 have hl:(pF (l.take k)).length=k*43:=by rw[CU,ZW];congr 1;omega
 rw[e2,e3,<-hl];exact yV (lj s) (lj l[k]) (pF (l.take k)) (pF (l.drop (k+1))) (by rw[lL,lL])
def Bu(s:me)(c:Int)(x:Cn):Int×Int×Int:=if s.kind=3 then(0,0,0)else if s.float≠0 then vA s c x.least x.lC else oc s c
def pE(s:me)(c:Int)(x:Cn):Int×Int×Int:=if s.kind=3 then(0,0,0)else Kh (Bu s c x)
def pU(s:me)(c:Int)(x:Cn):Bool:=if s.kind=3 then false else Kg (Bu s c x)
structure vi(gg gS gG n:Nat)(c:Int)(ss:List me)(xs:List Cn)(W:World):Prop where
 g:lq W gg 231 #[c,.slice gS n n,.slice gG n n,lH,lH]
 s:lq W gS 63 (pF ss).toArray
 x:lq W gG 38 (ly xs).toArray
section
variable{gg gS gG n k:Nat}{c:Int}{ss:List me}{xs:List Cn}{W W':World}
theorem vi.lR(h:vi gg gS gG n c ss xs W)(hb:Below W.heap.size W W'):vi gg gS gG n c ss xs W':=⟨h.g.below hb h.g.lt,h.s.below hb h.s.lt,h.x.below hb h.x.lt⟩
theorem vi.sty(h:vi gg gS gG n c ss xs W)(hk:k<ss.length):∀j v,(lj ss[k])[j]? =some v->W.cell? ((⟨gS,k*43,none⟩:Addr).add j)=some v:=λj v hv=>by
 have hj:=(YT.1 hv).1;rw[lL]at hj;have ha:(⟨gS,k*43,none⟩:Addr).add j=⟨gS,k*43+j,none⟩:=by unfold Addr.add;split<;>simp_all
 rw[ha];exact h.s.get _ (by rw[YR,N2 ss k j hk hj];exact hv)
theorem vi.cn(h:vi gg gS gG n c ss xs W)(hk:k<xs.length):W.cell? (gG,k*4)=some (.int .i64 xs[k].least)/\W.cell? (gG,k*4+1)=some (.int .i64 xs[k].lC):=
 ⟨h.x.get _ (by rw[YR];exact wV xs k 0 hk (by omega)),h.x.get _ (by rw[YR];exact wV xs k 1 hk (by omega))⟩
end
theorem vi.lQ{gg gS gG n gu:Nat}{c:Int}{ss:List me}{xs:List Cn}{W:World}(h:vi gg gS gG n c ss xs W)(h1:gg≠gu)(h2:gS≠gu)(h3:gG≠gu)(i:Nat)(u:Value):vi gg gS gG n c ss xs (W.setCell (gu,i) u):=⟨h.g.lQ h1 u,h.s.lQ h2 u,h.x.lQ h3 u⟩
structure oX(gu:Nat)(a b c:Int)(w W:World):Prop where
 us:lq W gu 40 #[a,b,c]
 b:Below w.heap.size w W
 lo:w.heap.size<=gu
theorem oX.lR{gu:Nat}{a b c:Int}{w W W':World}(h:oX gu a b c w W)(hb:Below W.heap.size W W'):oX gu a b c w W':=⟨h.us.below hb h.us.lt,h.b.trans (hb.mono h.b.size),h.lo⟩
theorem oX.fin{gu:Nat}{a b c:Int}{w W:World}(h:oX gu a b c w W)(x y z:Int):oX gu x y z w (((W.setCell (gu,0) x).setCell (gu,1) y).setCell (gu,2) z):=
 ⟨by have h:=((h.us.lA 0 x).lA 1 y).lA 2 z;simpa using h,((h.b.setCell (p:=(gu,0)) h.lo _).setCell (p:=(gu,1)) h.lo _).setCell (p:=(gu,2)) h.lo _,h.lo⟩
theorem Ri(v:Value)(k:Int)(w:World):Calls prog 144 #[v,k] w (oD (.tuple #[.agg #[lx,lx,lx],false]) w):=by go_enter func144,ntmps144;go_wp2_with fail;refine ZQ (oJ rfl _ _ w.heap.size 0 0 0 _ rfl rfl (by first | exact lq.at_ _ _ _ rfl)) rfl ⟨rfl,qx (ZN _ _) _⟩
theorem SA(gg gS gG n k:Nat)(c:Int)(ss:List me)(xs:List Cn)(w:World)(hi:vi gg gS gG n c ss xs w)(hss:ss.length=n)(hxs:xs.length=n)(hk:k<n)(hn:n<=100000)(hs:P3 (ss[k]'(by omega)))(hc:CB c): Calls prog 143 #[.pointer gg,.int .i64 (k:Int)] w (oD (ou (oc (ss[k]'(by omega)) c)) w):=by
 obtain⟨s,uH⟩:∃s,s=ss[k]'(by omega):=⟨_,rfl⟩;obtain⟨x,G8⟩:∃x,x=xs[k]'(by omega):=⟨_,rfl⟩;rw[<-uH]at hs⊢;try rw[<-G8]
 have rT:Hid (∀W,vi gg gS gG n c ss xs W->∀j v,(lj s)[j]? =some v->W.cell? ((⟨gS,k*43,none⟩:Addr).add j)=some v):=X6 (λW h=>by rw[uH];exact h.sty (by omega));have CO:Hid (∀W,vi gg gS gG n c ss xs W->W.cell? (gG,k*4)=x.least/\W.cell? (gG,k*4+1)=x.lC):=X6 (λW h=>by rw[G8];exact h.cn (by omega));have HGV:Hid (∀W,vi gg gS gG n c ss xs W->W.cell? (gg,0)=c/\W.cell? (gg,1)=some (.slice gS n n)/\W.cell? (gg,2)=some (.slice gG n n)):=X6 (λW h=>⟨h.g.get 0 rfl,h.g.get 1 rfl,h.g.get 2 rfl⟩);obtain⟨x1,x2,x3,y,hv⟩:∃x1 x2 x3 y,ou (oc s c)= .tuple #[.agg #[.int .i64 x1,.int .i64 x2,.int .i64 x3],.bool y]:=⟨_,_,_,_,rfl⟩;rw[hv];have HF:Hid (∀W,Calls prog 141 #[.agg (lj s).toArray,c] W (oD (.tuple #[.agg #[x1,x2,x3],y]) W)):=X6 (λW=>by rw[<-hv];exact GD s c W hs hc);have HI:=X6 hi;clear hs;clear hv uH G8 hi;have Ff:(k:Int)<(n:Int):=by omega
 have hk3:(0:Int)<=(k:Int):=by omega
 go_enter func143,ntmps143;go_upto_region 1 with(fail)
 obtain⟨gu,rW⟩:∃gu,gu=w.heap.size:=⟨_,rfl⟩;have sI:Hid (oX gu 0 0 0 w (w.alloc (.cells #[lx,lx,lx] 40))/\vi gg gS gG n c ss xs (w.alloc (.cells #[lx,lx,lx] 40))):=X6
  ⟨⟨lq.at_ _ _ _ rW,qx (ZN _ _) _,by omega⟩,HI.lR (qx (ZN _ _) _)⟩
 obtain⟨w1,mW⟩:∃w1,w1=w.alloc (.cells #[lx,lx,lx] 40):=⟨_,rfl⟩;rw[<-mW]at sI⊢;rw[<-rW];have r9:Hid (gg≠gu/\gS≠gu/\gG≠gu):=X6 (by have:=HI.g.lt;have:=HI.s.lt;have:=HI.x.lt;omega);clear mW rW HI;have E0:oX gu 0 0 0 w w1.drew/\vi gg gS gG n c ss xs w1.drew:=⟨sI.1.lR (ZN _ _).drew,sI.2.lR (ZN _ _).drew⟩;refine mw (λb _ _ W=>(if b then oX gu x1 x2 x3 w W else oX gu 0 0 0 w W)/\vi gg gS gG n c ss xs W) 14 1000 100000 false true (by kernel_rfl) (by kernel_rfl) (by kernel_rfl) (E0) ?_;refine xN 0 ?_;iterate 6
  refine Ay (v:=?_) ?_ ?_;rotate_left
  ·intro d' u' W' lr;have q:=(show oX gu 0 0 0 w W'/\vi gg gS gG n c ss xs W' from lr);obtain⟨g0,g1,g2⟩:=HGV.out W' q.2;obtain⟨r0,r1⟩:=CO.out W' q.2;go_simp;rfl
  try simp only[Act.put,X8,YF,YE,YD,YA,YB]
 refine lW (i:=6) (v:= .agg (lj s).toArray) rfl (by kernel_rfl) (by kernel_rfl) (by kernel_rfl) (λ_ _ _ h=>h) (by rfl) (nX ?_) ?_
 ·refine mK (by rfl) 63 (.tmp 11) rfl (⟨gS,k*43,none⟩) rfl (lj s) _ ?_ underlying63 rfl (by kernel_rfl);rintro W' ⟨b',d',u',lr⟩;exact rT.out W' lr.2
 try simp only[Act.put,X8,YF,YE,YD,YA,YB]
 refine xN 7 ?_;iterate 4
  refine Ay (v:=?_) ?_ ?_;rotate_left
  ·intro d' u' W' lr;have q:=(show oX gu 0 0 0 w W'/\vi gg gS gG n c ss xs W' from lr);obtain⟨g0,g1,g2⟩:=HGV.out W' q.2;obtain⟨r0,r1⟩:=CO.out W' q.2;go_simp;rfl
  try simp only[Act.put,X8,YF,YE,YD,YA,YB]
 refine lW (i:=11) (v:= .tuple #[.agg #[x1,x2,x3],.bool y]) rfl (by kernel_rfl) (by kernel_rfl) (by kernel_rfl) (λ_ _ _ h=>h) (by rfl) (nO (by rfl) (by kernel_rfl) _ _ ?_ (λd' u' W' lr=>(HF.out W').mono (λ_ _ h=>⟨h.1,(show oX gu 0 0 0 w W'/\vi gg gS gG n c ss xs W' from lr).1.lR h.2,(show oX gu 0 0 0 w W'/\vi gg gS gG n c ss xs W' from lr).2.lR h.2⟩))) ?_
 ·intro W';first | rfl | kernel_rfl
 try simp only[Act.put,X8,YF,YE,YD,YA,YB]
 refine xN 12 ?_;iterate 2
  refine Ay (v:=?_) ?_ ?_;rotate_left
  ·intro d' u' W' lr;have q:=(show oX gu 0 0 0 w W'/\vi gg gS gG n c ss xs W' from lr);obtain⟨g0,g1,g2⟩:=HGV.out W' q.2;obtain⟨r0,r1⟩:=CO.out W' q.2;go_simp;rfl
  try simp only[Act.put,X8,YF,YE,YD,YA,YB]
 refine mE (i:=14) (d:=true) (λW'=>(((W'.setCell ⟨gu,0,none⟩ (.int .i64 x1)).setCell ⟨gu,1,none⟩ (.int .i64 x2)).setCell ⟨gu,2,none⟩ (.int .i64 x3))) rfl (by kernel_rfl) (by rfl) (by rfl) (by kernel_rfl) rfl ?_ (λW' lr=>⟨(show oX gu 0 0 0 w W'/\vi gg gS gG n c ss xs W' from lr).1.fin x1 x2 x3,((lr.2.lQ r9.1 r9.2.1 r9.2.2 _ _).lQ r9.1 r9.2.1 r9.2.2 _ _).lQ r9.1 r9.2.1 r9.2.2 _ _⟩) ?_
 ·intro W' lr;have q:=(show oX gu 0 0 0 w W'/\vi gg gS gG n c ss xs W' from lr);obtain⟨g0,g1,g2⟩:=HGV.out W' q.2;obtain⟨r0,r1⟩:=CO.out W' q.2;have z0:=q.1.us.get 0 rfl;have z1:=q.1.us.get 1 rfl;have z2:=q.1.us.get 2 rfl;have f0:=q.1.us.frozen 0;have f1:=q.1.us.frozen 1;have f2:=q.1.us.frozen 2;go_simp;try rfl
 try simp only[Act.put,X8,YF,YE,YD,YA,YB]
 refine Ce [15] ?_;refine Pv (y:=by intro b' d' u' W' lr;go_simp;rfl) (h:=?_);refine Ch ?_;refine F6 (λwS hS=>?_);have HS:=X6 hS;clear hS E0;go_wp2_with fail;exact ZQ (oJ rfl _ _ gu x1 x2 x3 _ rfl rfl (show oX gu x1 x2 x3 w wS from HS.1).us) rfl ⟨rfl,(show oX gu x1 x2 x3 w wS from HS.1).b⟩
theorem Wh(gg gS gG n k:Nat)(c:Int)(ss:List me)(xs:List Cn)(w:World)(hi:vi gg gS gG n c ss xs w)(hss:ss.length=n)(hxs:xs.length=n)(hk:k<n)(hn:n<=100000)(hs:P3 (ss[k]'(by omega)))(hc:CB c)(Am:0<=(xs[k]'(by omega)).least/\(xs[k]'(by omega)).least<=1099511627776)(wC:0<=(xs[k]'(by omega)).lC/\(xs[k]'(by omega)).lC<=1099511627776): Calls prog 146 #[.pointer gg,.int .i64 (k:Int)] w (oD (ou (vA (ss[k]'(by omega)) c (xs[k]'(by omega)).least (xs[k]'(by omega)).lC)) w):=by
 obtain⟨s,uH⟩:∃s,s=ss[k]'(by omega):=⟨_,rfl⟩;obtain⟨x,G8⟩:∃x,x=xs[k]'(by omega):=⟨_,rfl⟩;rw[<-uH]at hs⊢;try rw[<-G8]
 have rT:Hid (∀W,vi gg gS gG n c ss xs W->∀j v,(lj s)[j]? =some v->W.cell? ((⟨gS,k*43,none⟩:Addr).add j)=some v):=X6 (λW h=>by rw[uH];exact h.sty (by omega));have CO:Hid (∀W,vi gg gS gG n c ss xs W->W.cell? (gG,k*4)=x.least/\W.cell? (gG,k*4+1)=x.lC):=X6 (λW h=>by rw[G8];exact h.cn (by omega));have HGV:Hid (∀W,vi gg gS gG n c ss xs W->W.cell? (gg,0)=c/\W.cell? (gg,1)=some (.slice gS n n)/\W.cell? (gg,2)=some (.slice gG n n)):=X6 (λW h=>⟨h.g.get 0 rfl,h.g.get 1 rfl,h.g.get 2 rfl⟩);obtain⟨x1,x2,x3,y,hv⟩:∃x1 x2 x3 y,ou (vA s c x.least x.lC)= .tuple #[.agg #[.int .i64 x1,.int .i64 x2,.int .i64 x3],.bool y]:=⟨_,_,_,_,rfl⟩;rw[hv];have HF:Hid (∀W,Calls prog 201 #[.agg (lj s).toArray,c,x.least,x.lC] W (oD (.tuple #[.agg #[x1,x2,x3],y]) W)):=X6 (λW=>by rw[<-hv];exact V3 s c x.least x.lC W hs hc (by rw[G8];exact Am) (by rw[G8];exact wC));have HI:=X6 hi;clear hs Am wC;clear hv uH G8 hi;have Ff:(k:Int)<(n:Int):=by omega
 have hk3:(0:Int)<=(k:Int):=by omega
 go_enter func146,ntmps146;go_upto_region 1 with(fail)
 obtain⟨gu,rW⟩:∃gu,gu=w.heap.size:=⟨_,rfl⟩;have sI:Hid (oX gu 0 0 0 w (w.alloc (.cells #[lx,lx,lx] 40))/\vi gg gS gG n c ss xs (w.alloc (.cells #[lx,lx,lx] 40))):=X6
  ⟨⟨lq.at_ _ _ _ rW,qx (ZN _ _) _,by omega⟩,HI.lR (qx (ZN _ _) _)⟩
 obtain⟨w1,mW⟩:∃w1,w1=w.alloc (.cells #[lx,lx,lx] 40):=⟨_,rfl⟩;rw[<-mW]at sI⊢;rw[<-rW];have r9:Hid (gg≠gu/\gS≠gu/\gG≠gu):=X6 (by have:=HI.g.lt;have:=HI.s.lt;have:=HI.x.lt;omega);clear mW rW HI;have E0:oX gu 0 0 0 w w1.drew/\vi gg gS gG n c ss xs w1.drew:=⟨sI.1.lR (ZN _ _).drew,sI.2.lR (ZN _ _).drew⟩;refine mw (λb _ _ W=>(if b then oX gu x1 x2 x3 w W else oX gu 0 0 0 w W)/\vi gg gS gG n c ss xs W) 30 1000 100000 false true (by kernel_rfl) (by kernel_rfl) (by kernel_rfl) (E0) ?_;refine xN 0 ?_;iterate 6
  refine Ay (v:=?_) ?_ ?_;rotate_left
  ·intro d' u' W' lr;have q:=(show oX gu 0 0 0 w W'/\vi gg gS gG n c ss xs W' from lr);obtain⟨g0,g1,g2⟩:=HGV.out W' q.2;obtain⟨r0,r1⟩:=CO.out W' q.2;go_simp;rfl
  try simp only[Act.put,X8,YF,YE,YD,YA,YB]
 refine lW (i:=6) (v:= .agg (lj s).toArray) rfl (by kernel_rfl) (by kernel_rfl) (by kernel_rfl) (λ_ _ _ h=>h) (by rfl) (nX ?_) ?_
 ·refine mK (by rfl) 63 (.tmp 11) rfl (⟨gS,k*43,none⟩) rfl (lj s) _ ?_ underlying63 rfl (by kernel_rfl);rintro W' ⟨b',d',u',lr⟩;exact rT.out W' lr.2
 try simp only[Act.put,X8,YF,YE,YD,YA,YB]
 refine xN 7 ?_;iterate 20
  refine Ay (v:=?_) ?_ ?_;rotate_left
  ·intro d' u' W' lr;have q:=(show oX gu 0 0 0 w W'/\vi gg gS gG n c ss xs W' from lr);obtain⟨g0,g1,g2⟩:=HGV.out W' q.2;obtain⟨r0,r1⟩:=CO.out W' q.2;go_simp;rfl
  try simp only[Act.put,X8,YF,YE,YD,YA,YB]
 refine lW (i:=27) (v:= .tuple #[.agg #[x1,x2,x3],.bool y]) rfl (by kernel_rfl) (by kernel_rfl) (by kernel_rfl) (λ_ _ _ h=>h) (by rfl) (nO (by rfl) (by kernel_rfl) _ _ ?_ (λd' u' W' lr=>(HF.out W').mono (λ_ _ h=>⟨h.1,(show oX gu 0 0 0 w W'/\vi gg gS gG n c ss xs W' from lr).1.lR h.2,(show oX gu 0 0 0 w W'/\vi gg gS gG n c ss xs W' from lr).2.lR h.2⟩))) ?_
 ·intro W';first | rfl | kernel_rfl
 try simp only[Act.put,X8,YF,YE,YD,YA,YB]
 refine xN 28 ?_;iterate 2
  refine Ay (v:=?_) ?_ ?_;rotate_left
  ·intro d' u' W' lr;have q:=(show oX gu 0 0 0 w W'/\vi gg gS gG n c ss xs W' from lr);obtain⟨g0,g1,g2⟩:=HGV.out W' q.2;obtain⟨r0,r1⟩:=CO.out W' q.2;go_simp;rfl
  try simp only[Act.put,X8,YF,YE,YD,YA,YB]
 refine mE (i:=30) (d:=true) (λW'=>(((W'.setCell ⟨gu,0,none⟩ (.int .i64 x1)).setCell ⟨gu,1,none⟩ (.int .i64 x2)).setCell ⟨gu,2,none⟩ (.int .i64 x3))) rfl (by kernel_rfl) (by rfl) (by rfl) (by kernel_rfl) rfl ?_ (λW' lr=>⟨(show oX gu 0 0 0 w W'/\vi gg gS gG n c ss xs W' from lr).1.fin x1 x2 x3,((lr.2.lQ r9.1 r9.2.1 r9.2.2 _ _).lQ r9.1 r9.2.1 r9.2.2 _ _).lQ r9.1 r9.2.1 r9.2.2 _ _⟩) ?_
 ·intro W' lr;have q:=(show oX gu 0 0 0 w W'/\vi gg gS gG n c ss xs W' from lr);obtain⟨g0,g1,g2⟩:=HGV.out W' q.2;obtain⟨r0,r1⟩:=CO.out W' q.2;have z0:=q.1.us.get 0 rfl;have z1:=q.1.us.get 1 rfl;have z2:=q.1.us.get 2 rfl;have f0:=q.1.us.frozen 0;have f1:=q.1.us.frozen 1;have f2:=q.1.us.frozen 2;go_simp;try rfl
 try simp only[Act.put,X8,YF,YE,YD,YA,YB]
 refine Ce [31] ?_;refine Pv (y:=by intro b' d' u' W' lr;go_simp;rfl) (h:=?_);refine Ch ?_;refine F6 (λwS hS=>?_);have HS:=X6 hS;clear hS E0;go_wp2_with fail;exact ZQ (oJ rfl _ _ gu x1 x2 x3 _ rfl rfl (show oX gu x1 x2 x3 w wS from HS.1).us) rfl ⟨rfl,(show oX gu x1 x2 x3 w wS from HS.1).b⟩
end Go.Proofs.YtjhingednpjogaaGreat
