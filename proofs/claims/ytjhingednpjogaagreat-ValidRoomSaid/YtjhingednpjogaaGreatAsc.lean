/- Lemmas for ValidRoom; laid together by a program. -/
import Derived.Test.YtjhingednpjogaaGreatAsb
set_option linter.all false
set_option maxRecDepth 100000
set_option maxHeartbeats 2000000
open Go.RowKit
namespace Go.Proofs.YtjhingednpjogaaGreat
open Go.Proofs.Tryz
section
attribute [local go_sem] lp
def Pc:Ln:=⟨0,0⟩
def ni(k f:Int):me:=⟨k,false,f,0,Pc,Pc,Pc,Pc,Pc,Pc,Pc,Pc,Pc,Pc,0,0,0,0,0,0,0,0,0,0,false,0,0,0,0,0,Pc,[],.slice none 0 0⟩
theorem NZ(l:List Nd)(hl:0<l.length)(zv:l.length<=65536)(A A2:Option Addr)(c m c2:Nat)(view:Int)(w:World)(hr:Reads w w.heap.size 44 A l.length (lI l))(hs:P3 l[0].s)(hc:CB view): Calls prog 86 #[.agg #[.slice A l.length c,.slice A2 m c2,view]] w (oD (ou (oc l[0].s view)) w):=by
 obtain⟨s,uH⟩:∃s,s=l[0].s:=⟨_,rfl⟩;rw[<-uH]at hs⊢;obtain⟨ad,rfl,hnd0⟩:=hr.nd rfl hl;have xS:Hid (∀W,Below w.heap.size w W->∀q v,(lj s)[q]? =some v->W.cell? ((⟨ad.block,ad.off+1,none⟩:Addr).add q)=some v):=X6 (λW h q v hv=>by
  obtain⟨FT,e,pN⟩:=(hr.below h).nd rfl hl;injection e with e;subst e;have hx:=pN.cs q v (by rw[<-uH];exact hv);rw[lp]at hx;have ha:(⟨ad.block,ad.off+1,none⟩:Addr).add q=⟨ad.block,(ad.add (0*44)).off+(1+q),none⟩:=by
   have e0:(ad.add (0*44)).off=ad.off:=(by simp[Addr.add]);rw[e0];unfold Addr.add
   split
   ·simp_all
   ·simp;omega
  rw[ha];exact hx)
 obtain⟨x1,x2,x3,y,hv⟩:∃x1 x2 x3 y,ou (oc s view)= .tuple #[.agg #[.int .i64 x1,.int .i64 x2,.int .i64 x3],.bool y]:=⟨_,_,_,_,rfl⟩;rw[hv];have HF:Hid (∀W,Calls prog 141 #[.agg (lj s).toArray,view] W (oD (.tuple #[.agg #[x1,x2,x3],y]) W)):=X6 (λW=>by rw[<-hv];exact GD s view W hs hc);clear hv uH hr hs hnd0;obtain⟨n,hn⟩:∃n,n=l.length:=⟨_,rfl⟩;rw[<-hn]at hl zv⊢;clear hn;have q0:((n:Int) == 0)=false:=ZO.2 (by omega);have q1:(0:Int)<(n:Int):=by omega
 go_enter func86,ntmps86;go_upto_region 1 with(fail)
 obtain⟨gT,D4⟩:∃gT,gT=w.heap.size:=⟨_,rfl⟩;obtain⟨gu,rW⟩:∃gu,gu=w.heap.size+1:=⟨_,rfl⟩;have sI:Hid (lq ((w.alloc (.cells #[.slice (some ad) n c,.slice A2 m c2,view] 25)).alloc (.cells #[lx,lx,lx] 40)) gT 25 #[.slice (some ad) n c,.slice A2 m c2,view]/\oX gu 0 0 0 w ((w.alloc (.cells #[.slice (some ad) n c,.slice A2 m c2,view] 25)).alloc (.cells #[lx,lx,lx] 40))):=X6
  ⟨(lq.at_ _ _ _ D4).alloc _,lq.at_ _ _ _ (by rw[rW];simp),qx (qx (ZN _ _) _) _,by omega⟩
 obtain⟨w1,mW⟩:∃w1,w1=((w.alloc (.cells #[.slice (some ad) n c,.slice A2 m c2,view] 25)).alloc (.cells #[lx,lx,lx] 40)):=⟨_,rfl⟩;rw[<-mW]at sI⊢;have r9:Hid (gT≠gu):=X6 (by omega);first | rw[<-rW] | skip
 rw[<-D4];try rw[show gT+1=gu by omega]
 clear mW rW D4;have y0:=sI.1.get 0 rfl;go_upto_region 3 with(fail)
 clear y0;have E0:oX gu 0 0 0 w w1.drew/\lq w1.drew gT 25 #[.slice (some ad) n c,.slice A2 m c2,view]:=⟨sI.2.lR (ZN _ _).drew,sI.1.below (ZN _ _).drew sI.1.lt⟩;refine mw (λb _ _ W=>(if b then oX gu x1 x2 x3 w W else oX gu 0 0 0 w W)/\lq W gT 25 #[.slice (some ad) n c,.slice A2 m c2,view]) 10 1000 100000 false true (by kernel_rfl) (by kernel_rfl) (by kernel_rfl) (E0) ?_;refine xN 0 ?_;iterate 4
  refine Ay (v:=?_) ?_ ?_;rotate_left
  ·intro d' u' W' lr;have q:=(show oX gu 0 0 0 w W'/\lq W' gT 25 #[.slice (some ad) n c,.slice A2 m c2,view]from lr);have y0:=q.2.get 0 rfl;have y2:=q.2.get 2 rfl;go_simp;rfl
  try simp only[Act.put,X8,YF,YE,YD,YA,YB]
 refine lW (i:=4) (v:= .agg (lj s).toArray) rfl (by kernel_rfl) (by kernel_rfl) (by kernel_rfl) (λ_ _ _ h=>h) (by rfl) (nX ?_) ?_
 ·refine mK (by rfl) 63 (.tmp 12) rfl (⟨ad.block,ad.off+1,none⟩) rfl (lj s) _ ?_ underlying63 rfl (by kernel_rfl);rintro W' ⟨b',d',u',lr⟩;exact xS.out W' (by cases b'<;>exact lr.1.b)
 try simp only[Act.put,X8,YF,YE,YD,YA,YB]
 refine xN 5 ?_;iterate 2
  refine Ay (v:=?_) ?_ ?_;rotate_left
  ·intro d' u' W' lr;have q:=(show oX gu 0 0 0 w W'/\lq W' gT 25 #[.slice (some ad) n c,.slice A2 m c2,view]from lr);have y0:=q.2.get 0 rfl;have y2:=q.2.get 2 rfl;go_simp;rfl
  try simp only[Act.put,X8,YF,YE,YD,YA,YB]
 refine lW (i:=7) (v:= .tuple #[.agg #[x1,x2,x3],.bool y]) rfl (by kernel_rfl) (by kernel_rfl) (by kernel_rfl) (λ_ _ _ h=>h) (by rfl) (nO (by rfl) (by kernel_rfl) _ _ ?_ (λd' u' W' lr=>(HF.out W').mono (λ_ _ h=>⟨h.1,(show oX gu 0 0 0 w W'/\lq W' gT 25 #[.slice (some ad) n c,.slice A2 m c2,view]from lr).1.lR h.2,(show oX gu 0 0 0 w W'/\lq W' gT 25 #[.slice (some ad) n c,.slice A2 m c2,view]from lr).2.below h.2 (show oX gu 0 0 0 w W'/\lq W' gT 25 #[.slice (some ad) n c,.slice A2 m c2,view]from lr).2.lt⟩))) ?_
 ·intro W';first | rfl | kernel_rfl
 try simp only[Act.put,X8,YF,YE,YD,YA,YB]
 refine xN 8 ?_;iterate 2
  refine Ay (v:=?_) ?_ ?_;rotate_left
  ·intro d' u' W' lr;have q:=(show oX gu 0 0 0 w W'/\lq W' gT 25 #[.slice (some ad) n c,.slice A2 m c2,view]from lr);have y0:=q.2.get 0 rfl;have y2:=q.2.get 2 rfl;go_simp;rfl
  try simp only[Act.put,X8,YF,YE,YD,YA,YB]
 refine mE (i:=10) (d:=true) (λW'=>(((W'.setCell ⟨gu,0,none⟩ (.int .i64 x1)).setCell ⟨gu,1,none⟩ (.int .i64 x2)).setCell ⟨gu,2,none⟩ (.int .i64 x3))) rfl (by kernel_rfl) (by rfl) (by rfl) (by kernel_rfl) rfl ?_ (λW' lr=>⟨(show oX gu 0 0 0 w W'/\lq W' gT 25 #[.slice (some ad) n c,.slice A2 m c2,view]from lr).1.fin x1 x2 x3,((lr.2.lQ r9.out _).lQ r9.out _).lQ r9.out _⟩) ?_
 ·intro W' lr;have q:=(show oX gu 0 0 0 w W'/\lq W' gT 25 #[.slice (some ad) n c,.slice A2 m c2,view]from lr);have y0:=q.2.get 0 rfl;have y2:=q.2.get 2 rfl;have z0:=q.1.us.get 0 rfl;have z1:=q.1.us.get 1 rfl;have z2:=q.1.us.get 2 rfl;have f0:=q.1.us.frozen 0;have f1:=q.1.us.frozen 1;have f2:=q.1.us.frozen 2;go_simp;try rfl
 try simp only[Act.put,X8,YF,YE,YD,YA,YB]
 refine Ce [11] ?_;refine Pv (y:=by intro b' d' u' W' lr;go_simp;rfl) (h:=?_);refine Ch ?_;refine F6 (λwS hS=>?_);have HS:=X6 hS;clear hS E0;go_wp2_with fail;exact ZQ (oJ rfl _ _ gu x1 x2 x3 _ rfl rfl (show oX gu x1 x2 x3 w wS from HS.1).us) rfl ⟨rfl,(show oX gu x1 x2 x3 w wS from HS.1).b⟩
theorem Reads.xE{w:World}{g n:Nat}{t:TypeId}{xs:List Value}{size:Nat}(h:lq w g t xs.toArray)(hl:xs.length=n*size):Reads w w.heap.size size (some ⟨g,0,none⟩) n xs:=
 ⟨hl,λ_=>⟨_,rfl,h.lt,λj u hu=>by
  have ha:(⟨g,0,none⟩:Addr).add j=⟨g,j,none⟩:=by unfold Addr.add;split<;>simp_all
  rw[ha];exact h.get j (by rw[YR];exact hu)⟩⟩
theorem Ro:vz Pc:=⟨by decide,λh=>by cases h⟩
theorem styK_w(k f:Int):P3 (ni k f):=by
 have h0:(0:Int)<=0/\(0:Int)<=1099511627776:=by decide
 have h1:(-1099511627776:Int)<=0/\(0:Int)<=1099511627776:=by decide
 exact⟨Ro,Ro,Ro,Ro,Ro,⟨h0,h0,h0,h1,h1,h0,h0,h0,h0⟩⟩
end
section
attribute [local go_sem] lp
end
end Go.Proofs.YtjhingednpjogaaGreat
