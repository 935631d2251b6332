/- Lemmas for ValidRoom; laid together by a program. -/
import Derived.Lib.MinMax
import Derived.BigRegion
import Derived.Deep.CutBlock
import Derived.Laws.OwnMore
import Derived.Test.YtjhingednpjogaaGreatWh
import Derived.Laws.ResultCell
set_option linter.all false
set_option maxRecDepth 100000
set_option maxHeartbeats 4000000
open Go.RowKit
namespace Go.Proofs.YtjhingednpjogaaGreat
open Go.Proofs.Tryz
section
attribute [local go_sem] lp
theorem oQ{B:Nat}{a w:World}(h:Below B a w)(n:Nat):Below B a (w.drewN n):=⟨h.os,h.tape,h.output,h.size,h.block⟩
def Ti(f:Fl):Int:=IntKind.i64.wrap (f.y+f.h)
def L3(y h:Int)(f:Fl):Bool:=decide (0<f.h) && decide (f.y<IntKind.i64.wrap (y+h)) && decide (y<Ti f)
def xW(l:List Bool):List Value:=l.map Value.bool
theorem UN:El prog 53 4 (.bool false) 1 1:=⟨underlying53,by kernel_rfl,rfl,by decide⟩
theorem RN(n:Nat)(hn:n<=1000000)(w:World):(Instr.makeSlice 53 (.int .i64 (n:Int)) (.int .i64 (n:Int))).run prog w= .ok (.slice w.heap.size n n) (w.alloc (.cells (xW (List.replicate n false)).toArray 4)):=by
 obtain⟨i,hi,hz,hs,hb⟩:=Nr UN.info;have h:=S9 (P:=prog) (w:=w) 53 4 i (.bool false) UN.ht hi hz .i64 .i64 (n:Int) (n:Int) (by omega) (by omega) (by rw[hs];omega) (by rw[hb];omega) (by omega);have hm:madeCells (Value.bool false).cells (n*1)=(xW (List.replicate n false)).toArray:=by
  apply aBB;intro j;by_cases hj:j<n
  ·rw[Z5 (by rw[aBA];omega)];unfold xW;rw[YR,aAT,aBH,YP hj];simp only[madeCells,aCB,aBX];simp[Value.cells,Nat.mod_one]
  ·rw[ZC (by rw[aBA];omega)];unfold xW;rw[YR,aAT,aBH,YO hj];rfl
 rw[hs,show(n:Int).toNat=n from by omega,hm]at h;exact h
theorem CM{l:List Bool}{k:Nat}(h:k<l.length):(xW l)[k]? =some (.bool l[k]):=by unfold xW;simp[h]
theorem Uc(l:List Bool)(k:Nat)(b:Bool):(xW l).toArray.setIfInBounds k (.bool b)=(xW (l.set k b)).toArray:=by unfold xW;simp[List.map_set]
theorem RD{α:Type}(xs:List α)(k n:Nat)(z:α)(hx:xs.length=n)(hk:k<n):(xs.take k++List.replicate (n-k) z).set k (xs[k]'(by omega))=xs.take (k+1)++List.replicate (n-(k+1)) z:=by
 apply List.ext_getElem?;intro j;rw[List.getElem?_set];by_cases e:k=j
 ·subst e;rw[YP rfl,YP (by simp;omega),YN (by simp;omega),aBL,YP (by omega),YH (by omega)]
 ·rw[YO e];by_cases h:j<k
  ·rw[YN (by simp;omega),YN (by simp;omega),aBL,aBL,YP h,YP (by omega)]
  ·rw[YQ (by simp;omega),YQ (by simp;omega),aBH,aBH];simp only[ZW];by_cases h2:j<n
   ·rw[YP (by omega),YP (by omega)]
   ·rw[YO (by omega),YO (by omega)]
section
variable(l:List Fl)(A:Option Addr)(c:Nat)(w:World)
structure Xa(w:World)(bs:List Bool)(wr:World):Prop where
 g:lq wr w.heap.size 4 (xW bs).toArray
 b:Below w.heap.size w wr
theorem Jf(y h:Int)(hn:l.length<=65536)(hr:Reads w w.heap.size 5 A l.length (nj l)): Calls prog 263 #[.slice A l.length c,.int .i64 y,.int .i64 h] w λe w'=>(∃g,e= .returned (.slice (some ⟨g,0,none⟩) l.length l.length)/\lq w' g 4 (xW (l.map (L3 y h))).toArray)/\Below w.heap.size w w':=by
 have HR:=X6 hr;have HN:=X6 hn;have tC:∀W:World,(Instr.makeSlice 53 (.int .i64 (l.length:Int)) (.int .i64 (l.length:Int))).run prog W= .ok (.slice W.heap.size l.length l.length) (W.alloc (.cells (xW (List.replicate l.length false)).toArray 4)):=λW=>RN l.length (by have:=HN.out;omega) W;have vp:Hid (Xa w (List.replicate l.length false) (w.alloc (.cells (xW (List.replicate l.length false)).toArray 4))):=X6 ⟨lq.new _ _ _,bA⟩;clear hr hn;go_enter func263,ntmps263;go_wp2_with fail;clear tC;go_loopw [8] (λq wr=>∃k:Nat,k<=l.length/\q= .int .i64 k/\Hid (Xa w ((l.map (L3 y h)).take k++List.replicate (l.length-k) false) wr)) (λq _=>l.length-(intOf q).toNat);case atStart=>exact⟨0,by omega,rfl,by simpa using vp⟩
 case round=>
  obtain⟨k,hk,rfl,HI⟩:=hrel;clear vp;by_cases lN:k<l.length
  ·have d0:decide ((k:Int)<(l.length:Int))=true:=YC (by omega);have pJ:decide (k<l.length)=true:=YC lN;have C2:IntKind.i64.wrap ((k:Int)+1)=(k:Int)+1:=YG _ ⟨by omega,by have:=HN.out;omega⟩;have Fe:(k:Int)<(l.length:Int):=(by omega);obtain⟨ad,rfl,xZ,c0,c1,c2,c3,c4⟩:=(HR.below HI.b).fl rfl lN;have ED:ad.block<wr.heap.size:=YK xZ HI.b.size;have hbn:ad.block≠w.heap.size:=(by omega);obtain⟨bs,R6⟩:∃bs,bs=(l.map (L3 y h)).take k++List.replicate (l.length-k) false:=⟨_,rfl⟩;rw[<-R6]at HI;have Fq:=X6 R6;have zy:k<bs.length:=(by rw[R6];simp;omega);have o0:wr.cell? (w.heap.size,k)=some (.bool bs[k]):=HI.g.get k (by rw[YR];exact CM zy);have of:=HI.g.frozen k;have ol:=HI.g.lt;have rT:Hid (∀b,b=L3 y h l[k]->∀W',Xa w bs W'->Xa w ((l.map (L3 y h)).take (k+1)++List.replicate (l.length-(k+1)) false) (W'.setCell (w.heap.size,k) (.bool b))):=X6 (λb hb W' hI=>by have h1:=hI.g.lA k (.bool b);rw[Uc,Fq.out,hb]at h1;have h2:=RD (l.map (L3 y h)) k l.length false (by simp) lN;rw[aCG]at h2;rw[h2]at h1;exact⟨hb▸h1,hI.b.setCell (p:=(w.heap.size,k)) (X7 _) _⟩);obtain⟨f,hf⟩:∃f,f=l[k]:=⟨_,rfl⟩;rw[<-hf]at rT;have JZ:Hid (∀W',Xa w bs W'->W'.cell? (ad.block,(ad.add (k*5)).off+2)=some (.int .i64 f.y)/\W'.cell? (ad.block,(ad.add (k*5)).off+4)=some (.int .i64 f.h)/\(∃v,W'.cell? (w.heap.size,k)=some v)/\W'.frozen? (w.heap.size,k)=false/\w.heap.size<W'.heap.size/\ad.block<W'.heap.size):=X6 (λW' hI=>by obtain⟨FT,e2,-,-,-,q2,-,q4⟩:=(HR.below hI.b).fl rfl lN;injection e2 with e2;subst e2;rw[<-hf]at q2 q4;exact⟨q2,q4,⟨_,hI.g.get k (by rw[YR];exact CM zy)⟩,hI.g.frozen k,hI.g.lt,YK xZ hI.b.size⟩);have HAT:Hid (L3 y h f=(decide (0<f.h) && decide (f.y<IntKind.i64.wrap (y+h)) && decide (y<IntKind.i64.wrap (f.y+f.h)))):=X6 rfl;clear R6 hf c0 c1 c2 c3 c4 o0 of ol;cases e1:decide (0<f.h)
   ·have HB:Hid (false=L3 y h f):=X6 (by rw[HAT.out,e1];rfl);go_upto_region 5 with(fail)
    refine mw (λb _ _ W'=>if b then Xa w ((l.map (L3 y h)).take (k+1)++List.replicate (l.length-(k+1)) false) W' else Xa w bs W') 35 1000 100000 false true (by kernel_rfl) (by kernel_rfl) (by kernel_rfl) (⟨HI.g.drew,HI.b.drew⟩) ?_;refine xN 0 ?_;iterate 9
     refine Ay (v:=?_) ?_ ?_;rotate_left
     ·intro d' u' W' lr;obtain⟨x2,x4,⟨ov,o0⟩,of,ol,xl⟩:=JZ.out _ lr;go_simp;rfl
     try simp only[Act.put,X8,YF,YE,YD,YA,YB]
    refine Ce [9,10,11,12,13,14,15,16,17] ?_;iterate 9
     refine tmU (h:=?_)
    refine Ch ?_;refine xN 18 ?_;iterate 2
     refine Ay (v:=?_) ?_ ?_;rotate_left
     ·intro d' u' W' lr;obtain⟨x2,x4,⟨ov,o0⟩,of,ol,xl⟩:=JZ.out _ lr;go_simp;rfl
     try simp only[Act.put,X8,YF,YE,YD,YA,YB]
    refine Ce [20,21,22,23,24,25,26,27,28,29,30,31,32] ?_;iterate 13
     refine tmU (h:=?_)
    refine Ch ?_;refine xN 33 ?_;iterate 2
     refine Ay (v:=?_) ?_ ?_;rotate_left
     ·intro d' u' W' lr;obtain⟨x2,x4,⟨ov,o0⟩,of,ol,xl⟩:=JZ.out _ lr;go_simp;rfl
     try simp only[Act.put,X8,YF,YE,YD,YA,YB]
    refine mE (i:=35) (d:=true) (λW'=>W'.setCell ⟨w.heap.size,k,none⟩ (.bool false)) rfl (by kernel_rfl) (by rfl) (by rfl) (by kernel_rfl) rfl ?_ (λW' lr=>rT.out false HB.out _ lr) ?_
    ·intro W' lr;obtain⟨x2,x4,⟨ov,o0⟩,of,ol,xl⟩:=JZ.out _ lr;go_simp;try rfl
    try simp only[Act.put,X8,YF,YE,YD,YA,YB]
    refine F6 (λw9 hS=>?_);have qV:=X6 hS;clear hS;go_wp2_with fail;go_roundw;case rel=>exact⟨k+1,by omega,by go_num,qV⟩
    case measure=>simp[intOf];omega
   ·cases e2:decide (f.y<IntKind.i64.wrap (y+h))
    ·have HB:Hid (false=L3 y h f):=X6 (by rw[HAT.out,e1,e2];rfl);go_upto_region 5 with(fail)
     refine mw (λb _ _ W'=>if b then Xa w ((l.map (L3 y h)).take (k+1)++List.replicate (l.length-(k+1)) false) W' else Xa w bs W') 35 1000 100000 false true (by kernel_rfl) (by kernel_rfl) (by kernel_rfl) (⟨HI.g.drew,HI.b.drew⟩) ?_;refine xN 0 ?_;iterate 20
      refine Ay (v:=?_) ?_ ?_;rotate_left
      ·intro d' u' W' lr;obtain⟨x2,x4,⟨ov,o0⟩,of,ol,xl⟩:=JZ.out _ lr;go_simp;rfl
      try simp only[Act.put,X8,YF,YE,YD,YA,YB]
     refine Ce [20,21,22,23,24,25,26,27,28,29,30,31,32] ?_;iterate 13
      refine tmU (h:=?_)
     refine Ch ?_;refine xN 33 ?_;iterate 2
      refine Ay (v:=?_) ?_ ?_;rotate_left
      ·intro d' u' W' lr;obtain⟨x2,x4,⟨ov,o0⟩,of,ol,xl⟩:=JZ.out _ lr;go_simp;rfl
      try simp only[Act.put,X8,YF,YE,YD,YA,YB]
     refine mE (i:=35) (d:=true) (λW'=>W'.setCell ⟨w.heap.size,k,none⟩ (.bool false)) rfl (by kernel_rfl) (by rfl) (by rfl) (by kernel_rfl) rfl ?_ (λW' lr=>rT.out false HB.out _ lr) ?_
     ·intro W' lr;obtain⟨x2,x4,⟨ov,o0⟩,of,ol,xl⟩:=JZ.out _ lr;go_simp;try rfl
     try simp only[Act.put,X8,YF,YE,YD,YA,YB]
     refine F6 (λw9 hS=>?_);have qV:=X6 hS;clear hS;go_wp2_with fail;go_roundw;case rel=>exact⟨k+1,by omega,by go_num,qV⟩
     case measure=>simp[intOf];omega
    ·obtain⟨b3,e3⟩:∃b3,decide (y<IntKind.i64.wrap (f.y+f.h))=b3:=⟨_,rfl⟩;have HB:Hid (b3=L3 y h f):=X6 (by rw[HAT.out,e1,e2,e3];rfl);go_upto_region 5 with(fail);refine mw (λb _ _ W'=>if b then Xa w ((l.map (L3 y h)).take (k+1)++List.replicate (l.length-(k+1)) false) W' else Xa w bs W') 35 1000 100000 false true (by kernel_rfl) (by kernel_rfl) (by kernel_rfl) (⟨HI.g.drew,HI.b.drew⟩) ?_;refine xN 0 ?_;iterate 35
      refine Ay (v:=?_) ?_ ?_;rotate_left
      ·intro d' u' W' lr;obtain⟨x2,x4,⟨ov,o0⟩,of,ol,xl⟩:=JZ.out _ lr;go_simp;rfl
      try simp only[Act.put,X8,YF,YE,YD,YA,YB]
     refine mE (i:=35) (d:=true) (λW'=>W'.setCell ⟨w.heap.size,k,none⟩ (.bool b3)) rfl (by kernel_rfl) (by rfl) (by rfl) (by kernel_rfl) rfl ?_ (λW' lr=>rT.out b3 HB.out _ lr) ?_
     ·intro W' lr;obtain⟨x2,x4,⟨ov,o0⟩,of,ol,xl⟩:=JZ.out _ lr;go_simp;try rfl
     try simp only[Act.put,X8,YF,YE,YD,YA,YB]
     refine F6 (λw9 hS=>?_);have qV:=X6 hS;clear hS;go_wp2_with fail;go_roundw;case rel=>exact⟨k+1,by omega,by go_num,qV⟩
     case measure=>simp[intOf];omega
  ·have d0:decide ((k:Int)<(l.length:Int))=false:=X9 (by omega);have pJ:decide (k<l.length)=false:=X9 lN;have HK:=X6 (show k=l.length by omega);go_wp2_with fail;go_ret;exact⟨⟨_,rfl,by have h:=HI.g;rw[HK.out,YY (by simp),aC7,List.replicate_zero,aAL]at h;exact h⟩,HI.b⟩
theorem Gu(bs:List Bool)(gb:Nat)(lf rt:Int)(hn:l.length<=65536)(zy:bs.length=l.length)(hr:Reads w w.heap.size 5 A l.length (nj l))(hb:lq w gb 4 (xW bs).toArray): Calls prog 262 #[.slice A l.length c,.slice gb l.length l.length,.int .i64 lf,.int .i64 rt] w λe w'=>(∃a b:Int,e= .returned (.tuple #[a,b]))/\Below w.heap.size w w':=by
 have HR:=X6 hr;have HN:=X6 hn;have HB:=X6 hb;have Fy:=X6 zy;clear hr hn hb zy;go_enter func262,ntmps262;go_wp2_with fail;go_loopw [2,3,10] (λlv rv q wr=>∃k:Nat,k<=l.length/\q= .int .i64 k/\(∃a,lv= .int .i64 a)/\(∃a,rv= .int .i64 a)/\Hid (Below w.heap.size w wr)) (λ_ _ q _=>l.length-(intOf q).toNat);case atStart=>exact⟨0,by omega,rfl,⟨_,rfl⟩,⟨_,rfl⟩,X6 (ZN _ _)⟩
 case round=>
  obtain⟨k,hk,rfl,⟨la,rfl⟩,⟨ra,rfl⟩,HI⟩:=hrel;by_cases lN:k<l.length
  ·have d0:decide ((k:Int)<(l.length:Int))=true:=YC (by omega);have pJ:decide (k<l.length)=true:=YC lN;have C2:IntKind.i64.wrap ((k:Int)+1)=(k:Int)+1:=YG _ ⟨by omega,by have:=HN.out;omega⟩;have Fe:(k:Int)<(l.length:Int):=(by omega);obtain⟨ad,rfl,xZ,c0,c1,c2,c3,c4⟩:=(HR.below HI.out).fl rfl lN;have ED:ad.block<wr.heap.size:=YK xZ HI.size;have nY:=HB.below HI.out HB.lt;have b0:wr.cell? (gb,k)=some (.bool (bs[k]'(by rw[Fy.out];exact lN))):=nY.get k (by rw[YR];exact CM (by rw[Fy.out];exact lN));have bl:=nY.lt;clear nY;obtain⟨bv,hbv⟩:∃bv,bv=bs[k]'(by rw[Fy.out];exact lN):=⟨_,rfl⟩;obtain⟨f,hf⟩:∃f,f=l[k]:=⟨_,rfl⟩;rw[<-hbv]at b0;rw[<-hf]at c0 c1 c2 c3 c4;clear hbv hf;cases bv
   ·go_wp2_with fail;go_roundw;case rel=>exact⟨k+1,by omega,by go_num,⟨_,rfl⟩,⟨_,rfl⟩,HI⟩
    case measure=>simp[intOf];omega
   ·cases e4:(f.side == 2)
    ·go_upto_region 7 with(fail);go_quiet (fail);have qV:=X6 (oQ HI.out nq);generalize wr.drewN nq=w9 at qV⊢;go_wp2_with fail;go_roundw;case rel=>exact⟨k+1,by omega,by go_num,⟨_,rfl⟩,⟨_,rfl⟩,qV⟩
     case measure=>simp[intOf];omega
    ·go_wp2_with fail;go_roundw;case rel=>exact⟨k+1,by omega,by go_num,⟨_,rfl⟩,⟨_,rfl⟩,HI⟩
     case measure=>simp[intOf];omega
  ·have d0:decide ((k:Int)<(l.length:Int))=false:=X9 (by omega);have pJ:decide (k<l.length)=false:=X9 lN;go_wp2_with fail;go_ret2;exact⟨⟨_,_,rfl⟩,HI.out⟩
theorem Rl(y lf rt:Int)(hn:l.length<=65536)(hr:Reads w w.heap.size 5 A l.length (nj l)): Calls prog 250 #[.slice A l.length c,.int .i64 y,.int .i64 lf,.int .i64 rt] w λe w'=>(∃a b:Int,e= .returned (.tuple #[a,b]))/\Below w.heap.size w w':=by have HA:=X6 (Jf l A c w y 1 hn hr);have yT:=X6 (λW (hb:Below w.heap.size w W) bs gb (hl:bs.length=l.length) (h:lq W gb 4 (xW bs).toArray)=>Gu l A c W bs gb lf rt hn hl ((hr.below hb).more hb.size) h);clear hn hr;go_enter func250,ntmps250;go_wp2_with (first | (go_at_call 263;refine HA.mono ?_;rintro e w1 ⟨⟨g,rfl,hg⟩,nY⟩;have OG:=X6 hg;have mA:=X6 nY;clear hg nY) | (go_at_call 262;refine(yT.out _ mA.out _ _ (by simp) OG.out).mono ?_;rintro e w2 ⟨⟨a,b,rfl⟩,mr⟩;have nx:=X6 (mA.trans (mr.mono mA.size));clear mr));go_ret2;exact⟨⟨_,_,rfl⟩,nx.out⟩
theorem RE(y h lf rt:Int)(hn:l.length<=65536)(hr:Reads w w.heap.size 5 A l.length (nj l)): Calls prog 261 #[.slice A l.length c,.int .i64 y,.int .i64 h,.int .i64 lf,.int .i64 rt] w λe w'=>(∃a b:Int,e= .returned (.tuple #[a,b]))/\Below w.heap.size w w':=by have HA:=X6 (λh=>Jf l A c w y h hn hr);have yT:=X6 (λW (hb:Below w.heap.size w W) bs gb (hl:bs.length=l.length) (h:lq W gb 4 (xW bs).toArray)=>Gu l A c W bs gb lf rt hn hl ((hr.below hb).more hb.size) h);clear hn hr;go_enter func261,ntmps261;go_wp2_with (first | (go_at_call 263;refine(HA.out _).mono ?_;rintro e w1 ⟨⟨g,rfl,hg⟩,nY⟩;have OG:=X6 hg;have mA:=X6 nY;clear hg nY) | (go_at_call 262;refine(yT.out _ mA.out _ _ (by simp) OG.out).mono ?_;rintro e w2 ⟨⟨a,b,rfl⟩,mr⟩;have nx:=X6 (mA.trans (mr.mono mA.size));clear mr));go_ret2;exact⟨⟨_,_,rfl⟩,nx.out⟩
structure NxW(l:List Fl)(y b:Int)(is:Bool):Prop where
 yes:is=true->y<b/\∃f∈l,b=Ti f
 no:is=false->∀f∈l,¬y<Ti f
theorem Hr(y:Int)(hn:l.length<=65536)(hr:Reads w w.heap.size 5 A l.length (nj l)): Calls prog 252 #[.slice A l.length c,.int .i64 y] w λe w'=>(∃b is,e= .returned (.tuple #[.int .i64 b,.bool is])/\NxW l y b is)/\Below w.heap.size w w':=by
 have HR:=X6 hr;have HN:=X6 hn;clear hr hn;go_enter func252,ntmps252;go_wp2_with fail;go_loopw [6,7,8] (λbv iv q wr=>∃(k:Nat) (b:Int) (is:Bool),k<=l.length/\q= .int .i64 k/\bv= .int .i64 b/\iv= .bool is/\Hid (NxW (l.take k) y b is)/\Hid (Below w.heap.size w wr)) (λ_ _ q _=>l.length-(intOf q).toNat);case atStart=>exact⟨0,_,_,by omega,rfl,rfl,rfl,X6 ⟨by simp,by simp⟩,X6 (ZN _ _)⟩
 case round=>
  obtain⟨k,b,is,hk,rfl,rfl,rfl,HX,HI⟩:=hrel;by_cases lN:k<l.length
  ·have d0:decide ((k:Int)<(l.length:Int))=true:=YC (by omega);have pJ:decide (k<l.length)=true:=YC lN;have C2:IntKind.i64.wrap ((k:Int)+1)=(k:Int)+1:=YG _ ⟨by omega,by have:=HN.out;omega⟩;have Fe:(k:Int)<(l.length:Int):=(by omega);obtain⟨ad,rfl,xZ,c0,c1,c2,c3,c4⟩:=(HR.below HI.out).fl rfl lN;have ED:ad.block<wr.heap.size:=YK xZ HI.size;obtain⟨f,hf⟩:∃f,f=l[k]:=⟨_,rfl⟩;rw[<-hf]at c0 c1 c2 c3 c4;have QS:Hid (l.take (k+1)=l.take k++[f]):=X6 (by rw[aB8,YH lN,hf];rfl);clear hf;go_upto_region 6 with(fail)
   go_quiet (fail);have qV:=X6 (oQ HI.out nq);generalize wr.drewN nq=w9 at qV⊢;obtain⟨bt,hbt⟩:∃bt,bt=wrap64 (f.y+f.h):=⟨_,rfl⟩;have HBT:Hid (bt=Ti f):=X6 (by rw[hbt,<-IntWalk.i64_left];rfl);rw[<-hbt];clear hbt c0 c1 c2 c3 c4;cases e1:decide (y<bt)
   ·go_wp2_with fail;go_roundw;case rel=>
     refine⟨k+1,_,_,by omega,by go_num,rfl,rfl,X6 ⟨λh=>?_,λh=>?_⟩,qV⟩
     ·obtain⟨h1,f',h2,h3⟩:=HX.yes h;exact⟨h1,f',by rw[QS.out];exact aA4 _ h2,h3⟩
     ·intro f' Yg;rw[QS.out]at Yg;rcases YW.1 Yg with h2 | h2
      ·exact HX.no h f' h2
      ·simp only[Y7,ZD,DA]at h2;rw[h2,<-HBT.out];exact YS e1
    case measure=>simp[intOf];omega
   ·have Q0:Hid (∀is',NxW (l.take (k+1)) y bt is'\/is'=false):=X6 (λis'=>by
     cases is'
     ·exact .inr rfl
     ·exact .inl ⟨λ_=>⟨YZ e1,f,by rw[QS.out];simp,HBT.out⟩,λh=>by cases h⟩)
    cases is
    ·go_wp2_with fail;go_roundw;case rel=>exact⟨k+1,_,_,by omega,by go_num,rfl,rfl,X6 ((Q0.out true).resolve_right (by simp)),qV⟩
     case measure=>simp[intOf];omega
    ·cases e2:decide (bt<b)
     ·go_wp2_with fail;go_roundw;case rel=>refine⟨k+1,_,_,by omega,by go_num,rfl,rfl,X6 ⟨λh=>?_,λh=>by cases h⟩,qV⟩;obtain⟨h1,f',h2,h3⟩:=HX.yes rfl;exact⟨h1,f',by rw[QS.out];exact aA4 _ h2,h3⟩
      case measure=>simp[intOf];omega
     ·go_wp2_with fail;go_roundw;case rel=>exact⟨k+1,_,_,by omega,by go_num,rfl,rfl,X6 ((Q0.out true).resolve_right (by simp)),qV⟩
      case measure=>simp[intOf];omega
  ·have d0:decide ((k:Int)<(l.length:Int))=false:=X9 (by omega);have pJ:decide (k<l.length)=false:=X9 lN;have HK:=X6 (show k=l.length by omega);go_wp2_with fail;go_ret2;exact⟨⟨_,_,rfl,by have h:=HX.out;rw[HK.out,ZZ]at h;exact h⟩,HI.out⟩
theorem Rq(y:Int)(hn:l.length<=65536)(hr:Reads w w.heap.size 5 A l.length (nj l)): Calls prog 251 #[.slice A l.length c,.int .i64 y] w λe w'=>(∃b,e= .returned (.bool b)/\(b=false->∃f∈l,y<Ti f))/\Below w.heap.size w w':=by
 have HN:=X6 hn;have HA:=X6 (Jf l A c w y 1 hn hr);clear hn hr;go_enter func251,ntmps251;go_wp2_with (go_at_call 263;refine HA.mono ?_;rintro e w1 ⟨⟨g,rfl,hg⟩,nY⟩;have OG:=X6 hg;have mA:=X6 nY;clear hg nY);go_loopw [6] (λq wr=>∃k:Nat,k<=l.length/\q= .int .i64 k/\Hid (wr=w1)) (λq _=>l.length-(intOf q).toNat);case atStart=>exact⟨0,by omega,rfl,X6 rfl⟩
 case round=>
  obtain⟨k,hk,rfl,HI⟩:=hrel;have hi:=HI.out;subst hi;clear HI;by_cases lN:k<l.length
  ·have d0:decide ((k:Int)<(l.length:Int))=true:=YC (by omega);have pJ:decide (k<l.length)=true:=YC lN;have C2:IntKind.i64.wrap ((k:Int)+1)=(k:Int)+1:=YG _ ⟨by omega,by have:=HN.out;omega⟩;have Fe:(k:Int)<(l.length:Int):=(by omega);have b0:wr.cell? (g,k)=some (.bool (L3 y 1 l[k])):=OG.get k (by rw[YR,CM (by simpa using lN),aCG]);have bl:=OG.lt;have XW:=X6 (YJ lN);obtain⟨f,hf⟩:∃f,f=l[k]:=⟨_,rfl⟩;rw[<-hf]at b0 XW;clear hf;cases e1:L3 y 1 f
   ·rw[e1]at b0;go_wp2_with fail;go_roundw;case rel=>exact⟨k+1,by omega,by go_num,X6 trivial⟩
    case measure=>simp[intOf];omega
   ·rw[e1]at b0;go_wp2_with fail;refine ZQ (results_tmp rfl _ _ _) rfl ?_;refine⟨⟨_,rfl,λ_=>⟨f,XW.out,?_⟩⟩,mA.out⟩;unfold L3 at e1;simp only[Z3,ZU]at e1;exact e1.2
  ·have d0:decide ((k:Int)<(l.length:Int))=false:=X9 (by omega);have pJ:decide (k<l.length)=false:=X9 lN;go_wp2_with fail;go_ret;exact⟨⟨_,rfl,by simp⟩,mA.out⟩
def TU(l:List Fl)(y:Int):Nat:=l.countP λf=>decide (y<Ti f)
theorem Py{l:List Fl}{y b:Int}(h:y<b/\∃f∈l,b=Ti f):TU l b<TU l y:=by
 obtain⟨h1,f,hf,rfl⟩:=h;unfold TU;induction l with
 | nil=>simp at hf
 | cons a t ih=>
  have hle:∀t:List Fl,(t.countP λg=>decide (Ti f<Ti g))<=t.countP λg=>decide (y<Ti g):=λt=>List.countP_mono_left λg _ hg=>YC (Int.lt_trans h1 (YZ hg));rw[List.countP_cons,List.countP_cons];rcases Y7.1 hf with e | e
  ·subst e;have:=hle t;rw[YO (by simp),YP (by simpa using h1)];omega
  ·have:=ih e;by_cases ha:Ti f<Ti a
   ·rw[YP (by simpa using ha),YP (by simpa using Int.lt_trans h1 ha)];omega
   ·rw[YO (by simpa using ha)];split<;>omega
theorem LN(sd wd ht lf rt y:Int)(hn:l.length<=65536)(hr:Reads w w.heap.size 5 A l.length (nj l)): Calls prog 226 #[.slice A l.length c,.int .u8 sd,.int .i64 wd,.int .i64 ht,.int .i64 lf,.int .i64 rt,.int .i64 y] w λe w'=>(∃f:Fl,e= .returned (.agg (oL f).toArray))/\Below w.heap.size w w':=by
 have HR:=X6 hr;have HN:=X6 hn;have HBA:=X6 (λW y (hb:Below w.heap.size w W)=>Rl l A c W y lf rt hn ((hr.below hb).more hb.size));have HNX:=X6 (λW y (hb:Below w.heap.size w W)=>Hr l A c W y hn ((hr.below hb).more hb.size));have AK:=X6 (λW y (hb:Below w.heap.size w W)=>Rq l A c W y hn ((hr.below hb).more hb.size));have vp:Hid (lq (w.alloc (.cells #[.int .u8 0,lx,lx,lx,lx] 181)) w.heap.size 181 #[.int .u8 0,lx,lx,lx,lx]/\Below w.heap.size w (w.alloc (.cells #[.int .u8 0,lx,lx,lx,lx] 181))):=X6 ⟨lq.new _ _ _,bA⟩;clear hr hn;go_enter func226,ntmps226;go_wp2_with fail;generalize w.alloc _=w1 at vp⊢;generalize max wd 0=wd;generalize max ht 0=ht;go_loopw [6,15] (λyv q wr=>∃k:Nat,k<=l.length/\q= .int .i64 k/\(∃a,yv= .int .i64 a)/\Hid (wr=w1)) (λ_ q _=>l.length-(intOf q).toNat);case atStart=>exact⟨0,by omega,rfl,⟨_,rfl⟩,X6 rfl⟩
 case round=>
  obtain⟨k,hk,rfl,⟨ya,rfl⟩,HI⟩:=hrel;have hi:=HI.out;subst hi;clear HI;by_cases lN:k<l.length
  ·have d0:decide ((k:Int)<(l.length:Int))=true:=YC (by omega);have pJ:decide (k<l.length)=true:=YC lN;have C2:IntKind.i64.wrap ((k:Int)+1)=(k:Int)+1:=YG _ ⟨by omega,by have:=HN.out;omega⟩;have Fe:(k:Int)<(l.length:Int):=(by omega);obtain⟨ad,rfl,xZ,c0,c1,c2,c3,c4⟩:=(HR.below vp.2).fl rfl lN;have ED:ad.block<wr.heap.size:=YK xZ vp.2.size;go_wp2_with fail;go_roundw;case rel=>exact⟨k+1,by omega,by go_num,⟨_,rfl⟩,X6 trivial⟩
   case measure=>simp[intOf];omega
  ·have d0:decide ((k:Int)<(l.length:Int))=false:=X9 (by omega);have pJ:decide (k<l.length)=false:=X9 lN;go_wp2_with fail;go_loopw [6] (λyv w2=>∃a,yv= .int .i64 a/\Hid (lq w2 w.heap.size 181 #[.int .u8 0,lx,lx,lx,lx]/\Below w.heap.size w w2)) (λyv _=>TU l (intOf yv));case atStart=>exact⟨_,rfl,vp⟩
   case round=>
    obtain⟨ya,rfl,HI⟩:=hrel;clear vp;go_upto_region 8 with(go_at_call 250;refine(HBA.out _ _ HI.2).mono ?_;rintro e w3 ⟨⟨ba,bb,rfl⟩,pn⟩;have oK:=X6 (And.intro (HI.1.below pn HI.1.lt) (HI.2.trans (pn.mono HI.2.size)));clear pn HI);go_upto_region 9 with(go_at_call 251;refine(AK.out _ _ oK.2).mono ?_;rintro e w4 ⟨⟨fr,rfl,HF⟩,sY⟩;have HFF:=X6 HF;have rH:=X6 (And.intro (oK.1.below sY oK.1.lt) (oK.2.trans (sY.mono oK.2.size)));clear HF sY;cases fr);all_goals
     obtain⟨o0,o1,o2,o3,o4⟩:=rH.1.c5;have of:=rH.1.frozen;have ol:=rH.1.lt;cases es:(sd == 2)
    all_goals go_wp2_with (go_at_call 252;refine(HNX.out _ _ rH.2).mono ?_;rintro e w5 ⟨⟨b,is,rfl,HN5⟩,wE⟩;have sR:=X6 (And.intro (rH.1.below wE rH.1.lt) (rH.2.trans (wE.mono rH.2.size)));have Cf:=X6 HN5;clear wE HN5)
    all_goals first
     | (
      go_roundw;case rel=>exact⟨_,rfl,sR⟩
      case measure=>
       cases is
       ·obtain⟨f,h1,h2⟩:=HFF.out trivial;exact absurd h2 (Cf.no rfl f h1)
       ·exact Py (Cf.yes rfl))
     | (
      refine ZQ (Z2 rfl _ _ w.heap.size 181 #[_,_,_,_,_] (0,0) _ rfl (((((rH.1.lA 0 _).lA 1 _).lA 2 _).lA 3 _).lA 4 _) underlying181 rfl (by kernel_rfl)) rfl ⟨⟨⟨_,_,_,_,_⟩,rfl⟩,?_⟩;exact((((rH.2.setCell (p:=(w.heap.size,0)) (X7 _) _).setCell (p:=(w.heap.size,1)) (X7 _) _).setCell (p:=(w.heap.size,2)) (X7 _) _).setCell (p:=(w.heap.size,3)) (X7 _) _).setCell (p:=(w.heap.size,4)) (X7 _) _)
theorem td(sd y:Int)(hn:l.length<=65536)(hr:Reads w w.heap.size 5 A l.length (nj l)): Calls prog 132 #[.slice A l.length c,.int .u8 sd,.int .i64 y] w λe w'=>(∃a:Int,e= .returned a)/\Below w.heap.size w w':=by
 have HR:=X6 hr;have HN:=X6 hn;clear hr hn;cases e3:(sd == 3);all_goals cases e0:(sd == 0)
 all_goals
  have n0:(sd != 0)= !(sd == 0):=rfl;rw[e0]at n0;go_enter func132,ntmps132;go_wp2_with fail;go_loopw [2,7] (λyv q wr=>∃k:Nat,k<=l.length/\q= .int .i64 k/\(∃a,yv= .int .i64 a)/\Hid (Below w.heap.size w wr)) (λ_ q _=>l.length-(intOf q).toNat);case atStart=>exact⟨0,by omega,rfl,⟨_,rfl⟩,X6 (ZN _ _)⟩
  case round=>
   obtain⟨k,hk,rfl,⟨ya,rfl⟩,HI⟩:=hrel;by_cases lN:k<l.length
   ·have d0:decide ((k:Int)<(l.length:Int))=true:=YC (by omega);have pJ:decide (k<l.length)=true:=YC lN;have C2:IntKind.i64.wrap ((k:Int)+1)=(k:Int)+1:=YG _ ⟨by omega,by have:=HN.out;omega⟩;have Fe:(k:Int)<(l.length:Int):=(by omega);obtain⟨ad,rfl,xZ,c0,c1,c2,c3,c4⟩:=(HR.below HI.out).fl rfl lN;have ED:ad.block<wr.heap.size:=YK xZ HI.size;obtain⟨f,hf⟩:∃f,f=l[k]:=⟨_,rfl⟩;rw[<-hf]at c0 c1 c2 c3 c4;clear hf;cases e4:(sd == f.side);all_goals
     go_upto_region 5 with(fail);first
      | (
       go_quiet (fail);have qV:=X6 (oQ HI.out nq);generalize wr.drewN nq=w9 at qV⊢;go_wp2_with fail;go_roundw;case rel=>exact⟨k+1,by omega,by go_num,⟨_,rfl⟩,qV⟩
       case measure=>simp[intOf];omega)
      | (
       go_wp2_with fail;go_roundw;case rel=>exact⟨k+1,by omega,by go_num,⟨_,rfl⟩,HI⟩
       case measure=>simp[intOf];omega)
   ·have d0:decide ((k:Int)<(l.length:Int))=false:=X9 (by omega);have pJ:decide (k<l.length)=false:=X9 lN;go_wp2_with fail;go_ret;exact⟨⟨_,rfl⟩,HI.out⟩
end
end
section
attribute [local go_sem] lp
def Kt(t:TypeId)(B:Nat)(w w':World):Prop:=∀g cs o,B<=g->w.heap[g]? =some (.cells cs t o)->w'.heap[g]? =some (.cells cs t o)
section
variable{t:TypeId}{B:Nat}{w w' w'':World}
theorem Kt.refl:Kt t B w w:=λ_ _ _ _ h=>h
theorem Kt.trans(h:Kt t B w w')(h':Kt t B w' w''):Kt t B w w'':=λg cs o hg he=>h' g cs o hg (h g cs o hg he)
theorem Kt.below(h:Below w.heap.size w w'):Kt t B w w':=λg cs o _ he=>(h.block g (by
 rcases Z6 g w.heap.size with h | h
 ·exact h
 ·rw[ZC h]at he;cases he)).trans he
theorem Kt.grown{row:Option Nat}(h:w.grownBy w' row)(hr:∀g,row=some g->g<B\/∃cs t',t≠t'/\lq w g t' cs):Kt t B w w':=λg cs o hg he=>by
 have lN:g<w.heap.size:=by
  rcases Z6 g w.heap.size with h | h
  ·exact h
  ·rw[ZC h]at he;cases he
 refine(h.block g lN λe=>?_).trans he;rcases hr g e.symm with h1 | ⟨cs',t',h1,h2⟩
 ·omega
 ·unfold lq at h2;rw[he]at h2;injection h2 with h2
  injection h2 with _ h3 _;exact h1 h3
theorem Kt.setCell{p:Addr}(u:Value)(hp:p.block<B\/∃cs t',t≠t'/\lq w p.block t' cs):Kt t B w (w.setCell p u):=λg cs o hg he=>by
 refine(ZS w p u g λe=>?_).trans he;subst e;rcases hp with h1 | ⟨cs',t',h1,h2⟩
 ·omega
 ·unfold lq at h2;rw[he]at h2;injection h2 with h2
  injection h2 with _ h3 _;exact h1 h3
theorem Kt.own{B' size n:Nat}{v:Value}{xs:List Value}(h:Kt t B w w')(hB:B<=B')(ho:w.ownsRow B' t size v n xs):w'.ownsRow B' t size v n xs:=by
 refine⟨ho.1,?_⟩;rcases ho.2 with h1 | ⟨g,cap,cur,h1,h2,h3,h4⟩
 ·exact .inl h1
 ·exact .inr ⟨g,cap,cur,h1,h2,h g _ _ (by omega) h3,h4⟩
theorem rS{B' size n:Nat}{v:Value}{xs:List Value}(ho:w.ownsRow B' t size v n xs){g:Nat}(h:v.ownBlock=some g):∃cs,lq w g t cs:=by
 rcases ho.2 with⟨rfl,_⟩ | ⟨g',cap,cur,rfl,_,h3,_⟩
 ·cases h
 ·injection h with h;subst h;exact⟨_,h3⟩
end
structure C5 where
 y:Int
 fr:Nat
 up:Nat
 xs:List Int
 A:Option Addr
 c:Nat
def pk(r:C5):List Value:=[.int .i64 r.y,.int .i64 (r.fr:Int),.int .i64 (r.up:Int),.slice r.A r.xs.length r.c]
def qE(l:List C5):List Value:=l.flatMap pk
theorem F5(l:List C5)(x:C5):qE (l++[x])=qE l++pk x:=by simp[qE]
def RwOk(n B:Nat)(w:World)(r:C5):Prop:=w.ownsRow B 2 1 (.slice r.A r.xs.length r.c) r.xs.length (lY r.xs)/\r.fr+r.xs.length<=n
structure wY(n B:Nat)(w:World)(v:Value)(rs:List C5):Prop where
 o:w.ownsRow B 263 4 v rs.length (qE rs)
 r:∀r∈rs,RwOk n B w r
theorem wY.kept{n B:Nat}{w w':World}{v:Value}{rs:List C5}(h:wY n B w v rs)(h1:Kt 2 B w w')(h2:Kt 263 B w w'):wY n B w' v rs:=
 ⟨h2.own (X7 _) h.o,λr hr=>⟨h1.own (X7 _) (h.r r hr).1,(h.r r hr).2⟩⟩
theorem PV:El prog 121 263 (.agg #[lx,lx,lx,lH]) 4 48:=⟨underlying121,by kernel_rfl,rfl,by decide⟩
section
variable(l:List Fl)(A:Option Addr)(c:Nat)(w:World)
theorem Rr(wd ht lf rt y:Int)(hn:l.length<=65536)(hr:Reads w w.heap.size 5 A l.length (nj l)): Calls prog 249 #[.int .i64 wd,.int .i64 ht,.int .i64 lf,.int .i64 rt,.int .i64 y,.slice A l.length c] w λe w'=>(∃a b d:Int,e= .returned (.tuple #[a,b,d]))/\Below w.heap.size w w':=by
 have HTA:=X6 (λW y (hb:Below w.heap.size w W)=>RE l A c W y ht lf rt hn ((hr.below hb).more hb.size));have HNX:=X6 (λW y (hb:Below w.heap.size w W)=>Hr l A c W y hn ((hr.below hb).more hb.size));clear hr hn;go_enter func249,ntmps249;go_wp2_with fail;go_loopw [4] (λyv wr=>∃a,yv= .int .i64 a/\Hid (Below w.heap.size w wr)) (λyv _=>TU l (intOf yv));case atStart=>exact⟨_,rfl,X6 (ZN _ _)⟩
 case round=>
  obtain⟨ya,rfl,HI⟩:=hrel;go_upto_region 3 with(first | (go_at_call 261;refine(HTA.out _ _ HI.out).mono ?_;rintro e w1 ⟨⟨a,b,rfl⟩,nY⟩;have mA:=X6 (HI.trans (nY.mono HI.size));clear nY) | (go_at_call 252;refine(HNX.out _ _ mA.out).mono ?_;rintro e w2 ⟨⟨b2,is,rfl,JV⟩,mr⟩;have Cf:=X6 JV;have nx:=X6 (mA.trans (mr.mono mA.size));clear mr JV));cases is;all_goals cases e1:(a == lf)
  all_goals cases e2:(b == rt)
  all_goals go_wp2_with fail
  all_goals first
   | (refine ZQ (results_tmp3 rfl _ _ _) rfl ?_;exact⟨⟨_,_,_,rfl⟩,nx.out⟩)
   | (
    go_roundw;case rel=>exact⟨_,rfl,nx⟩
    case measure=>exact Py (Cf.yes rfl))
variable(ws:List Wd)(Aw:Option Addr)(cw:Nat)
structure FiI(n:Nat)(w:World)(v:Value)(rs:List C5)(wr:World):Prop where
 r:wY n w.heap.size wr v rs
 b:Below w.heap.size w wr
theorem FiI.lR{n:Nat}{w wr wr':World}{v:Value}{rs:List C5}(h:FiI n w v rs wr)(hb:Below wr.heap.size wr wr'):FiI n w v rs wr':=
 ⟨h.r.kept (Kt.below hb) (Kt.below hb),h.b.trans (hb.mono h.b.size)⟩
theorem FiI.app{n:Nat}{w wr wr':World}{v v':Value}{rs:List C5}(h:FiI n w v rs wr)(x:C5)(hx:RwOk n w.heap.size wr x)(hg:wr.grownBy wr' v.ownBlock)(ho:wr'.ownsRow w.heap.size 263 4 v' (rs.length+1) (qE rs++pk x)):FiI n w v' (rs++[x]) wr':=by
 have hk:Kt 2 w.heap.size wr wr':=Kt.grown hg λg e=> .inr (by obtain⟨cs,hc⟩:=rS h.r.o e;exact⟨cs,263,by decide,hc⟩);refine⟨⟨by rw[YM,F5];exact ho,λr hr=>?_⟩,h.b.grown hg h.b.size (λg e=>(h.r.o.lt g e).1)⟩;rcases YW.1 hr with h1 | h1
 ·exact⟨hk.own (X7 _) (h.r.r r h1).1,(h.r.r r h1).2⟩
 ·simp only[Y7,ZD,DA]at h1;subst h1;exact⟨hk.own (X7 _) hx.1,hx.2⟩
structure wR(w3:World)(ya:Int)(k up:Nat)(xs:List Int)(A:Option Addr)(c:Nat)(W:World):Prop where
 b:Below w3.heap.size w3 W
 r:lq W (w3.heap.size+1) 263 #[ya,k,up,.slice A xs.length c]
 o:W.ownsRow w3.heap.size 2 1 (.slice A xs.length c) xs.length (lY xs)
theorem wR.drewN{w3:World}{ya:Int}{k up:Nat}{xs:List Int}{A:Option Addr}{c:Nat}{W:World}(h:wR w3 ya k up xs A c W)(q:Nat):wR w3 ya k up xs A c (W.drewN q):=⟨oQ h.b q,h.r,h.o⟩
theorem wR.new(w3:World)(ya fa:Int)(k:Nat):wR w3 ya k 0 [fa] (some ⟨w3.heap.size,0,none⟩) 1 ((w3.alloc (.cells #[fa] 2)).alloc (.cells #[ya,k,lx,.slice w3.heap.size 1 1] 263)):=by refine⟨bA.alloc (by simp) _,lq.at_ _ _ _ (by simp),⟨rfl,.inr ⟨w3.heap.size,1,#[.int .i64 fa],rfl,X7 _,?_,X7 _,by simp[maxLen],rfl,rfl⟩⟩⟩;exact(lq.new w3 2 #[fa]).alloc _
section
variable{w3 W W':World}{ya:Int}{k up:Nat}{xs:List Int}{A:Option Addr}{c:Nat}
theorem wR.drew(h:wR w3 ya k up xs A c W):wR w3 ya k up xs A c W.drew:=⟨h.b.drew,h.r,h.o⟩
theorem wR.app(h:wR w3 ya k up xs A c W){v:Int}{A':Option Addr}{c':Nat}(hg:W.grownBy W' (Value.slice A xs.length c).ownBlock)(ho:W'.ownsRow w3.heap.size 2 1 (.slice A' (xs.length+1) c') (xs.length+1) (lY xs++[.int .i64 v])): wR w3 ya k up (xs++[v]) A' c' (W'.setCell (w3.heap.size+1,3) (.slice A' (xs.length+1) c')):=by
 have hr:lq W' (w3.heap.size+1) 263 #[ya,k,up,.slice A xs.length c]:=h.r.grown hg (λe=>lD h.o h.r (by decide) e.symm);have hl:(xs++[v]).length=xs.length+1:=by simp
 refine⟨(h.b.grown hg h.b.size (λg e=>(h.o.lt g e).1)).setCell (p:=(w3.heap.size+1,3)) (by simp) _,?_,?_⟩
 ·rw[hl];exact hr.lA 3 _
 ·have h2:Kt 2 w3.heap.size W' (W'.setCell (w3.heap.size+1,3) (.slice A' (xs.length+1) c')):=Kt.setCell (p:=(w3.heap.size+1,3)) _ (.inr ⟨_,_,by decide,hr⟩);rw[hl,show lY (xs++[v])=lY xs++[.int .i64 v] by simp[lY]];exact h2.own (X7 _) ho
theorem wR.up_(h:wR w3 ya k up xs A c W)(k2:Nat):wR w3 ya k k2 xs A c (W.setCell (w3.heap.size+1,2) (.int .i64 (k2:Int))):=
 ⟨h.b.setCell (p:=(w3.heap.size+1,2)) (by simp) _,h.r.lA 2 _,(Kt.setCell (t:=2) (B:=w3.heap.size) (p:=(w3.heap.size+1,2)) _ (.inr ⟨_,_,by decide,h.r⟩)).own (X7 _) h.o⟩
theorem wR.lA{g:Nat}(h:wR w3 ya k up xs (some ⟨g,0,none⟩) c W)(j:Nat)(v:Int):wR w3 ya k up (xs.set j v) (some ⟨g,0,none⟩) c (W.setCell (g,j) v):=by have mI:w3.heap.size+1≠g:=λe=>lD h.o h.r (by decide) (by rw[e];rfl);refine⟨h.b.setCell (p:=(g,j)) (h.o.lt g rfl).1 _,by rw[Xz];exact h.r.lQ mI _,?_⟩;rw[Xz,show lY (xs.set j v)=(lY xs).set j (.int .i64 v) by simp[lY,List.map_set]];exact(h.o.stored j (.int .i64 v)).1
theorem Zy{w:World}{base g:Nat}{e:TypeId}{n c j:Nat}{xs:List Value}{u:Value}(h:w.ownsRow base e 1 (.slice g n c) n xs)(hx:xs[j]? =some u):w.cell? (g,j)=some u:=by
 have h3:=(@World.ownsRow.cells _ _ _ _ _ _ _ h) (g:=g) rfl j u hx;have ha:(⟨g,0,none⟩:Addr).add j=⟨g,j,none⟩:=by unfold Addr.add;split<;>simp_all
 rw[ha]at h3;exact h3
theorem wR.some_(h:wR w3 ya k up xs A c W)(hx:0<xs.length):∃g,A=some ⟨g,0,none⟩:=by
 rcases h.o.2 with⟨e,h0⟩ | ⟨g,cap,cur,e,_⟩
 ·omega
 ·injection e with e1 _ _;exact⟨g,e1⟩
theorem QY{w:World}{base B size n:Nat}{e:TypeId}{v:Value}{xs:List Value}(h:w.ownsRow base e size v n xs)(hB:B<=base):w.ownsRow B e size v n xs:=by
 refine⟨h.1,?_⟩;rcases h.2 with h1 | ⟨g,cap,cur,h1,h2,h3⟩
 ·exact .inl h1
 ·exact .inr ⟨g,cap,cur,h1,YL hB h2,h3⟩
theorem wR.look{g j:Nat}(h:wR w3 ya k up xs (some ⟨g,0,none⟩) c W)(hj:j<xs.length):W.cell? (w3.heap.size+1,3)=some (.slice g xs.length c)/\W.cell? (g,j)=some (.int .i64 xs[j])/\W.frozen? (g,j)=false/\g<W.heap.size:=
 ⟨h.r.c4.2.2.2,Zy h.o (by simp[lY,hj]),h.o.frozenAt j,(h.o.lt g rfl).2⟩
end
theorem QC(h al lf rt y:Int)(hn:l.length<=65536)(hr:Reads w w.heap.size 5 A l.length (nj l))(hnw:ws.length<=60000)(Vo:∀x∈ws,0<=x.forced/\x.forced<=60000)(hw:Reads w w.heap.size 5 Aw ws.length (mC ws)): Calls prog 224 #[.slice Aw ws.length cw,.int .i64 h,.int .u8 al,.int .i64 lf,.int .i64 rt,.int .i64 y,.slice A l.length c] w λe w'=>(∃v a rs,e= .returned (.tuple #[v,.int .i64 a])/\wY ws.length w.heap.size w' v rs/\rs.length<=3600060000)/\Below w.heap.size w w':=by
 have HDN:=X6 (λW wd ht y (hb:Below w.heap.size w W)=>Rr l A c W wd ht lf rt y hn ((hr.below hb).more hb.size));have HW:=X6 hw;have Bf:=X6 hnw;have HFO:=X6 Vo;have vp:Hid (FiI ws.length w (.slice none 0 0) [] w):=X6 ⟨⟨YV _ _ _ _,by simp⟩,ZN _ _⟩;clear hr hn hw hnw Vo;go_enter func224,ntmps224;go_wp2_with fail;generalize max h 0=h;go_loopw [5,16,17] (λyv ov kv wr=>∃(k:Nat) (rs:List C5),k<=ws.length/\kv= .int .i64 (k:Int)/\(∃a,yv= .int .i64 a)/\rs.length<=k*60001/\Hid (FiI ws.length w ov rs wr)) (λ_ _ kv _=>ws.length-(intOf kv).toNat);case atStart=>exact⟨0,[],by omega,rfl,⟨_,rfl⟩,by simp,vp⟩
 case round=>
  obtain⟨k,rs,hk,rfl,⟨ya,rfl⟩,hrs,HI⟩:=hrel;clear vp;by_cases lN:k<ws.length
  ·have d0:decide ((k:Int)<(ws.length:Int))=true:=YC (by omega);have pJ:decide (k<ws.length)=true:=YC lN;have C2:IntKind.i64.wrap ((k:Int)+1)=(k:Int)+1:=YG _ ⟨by omega,by have:=Bf.out;omega⟩;have Fe:(k:Int)<(ws.length:Int):=(by omega);obtain⟨ad,rfl,xZ,c0,c1,c2,c3,c4⟩:=(HW.below HI.b).wd rfl lN;have ED:ad.block<wr.heap.size:=YK xZ HI.b.size;obtain⟨f,hf⟩:∃f,f=ws[k]:=⟨_,rfl⟩;have Vi:=X6 (show 0<=f.forced/\f.forced<=60000 from HFO.out f (hf▸YJ lN));have hfc:∀W:World,Below w.heap.size w W->W.cell? (ad.block,(ad.add (k*5)).off+2)=some (.int .i64 f.w):=λW hb=>by obtain⟨FT,e,_,_,_,h2,_⟩:=(HW.below hb).wd rfl lN;injection e with e;subst e;rw[hf];exact h2
   have JZ:=X6 hfc;rw[<-hf]at c0 c1 c2 c3 c4;clear hf hfc;have zD:decide ((0:Int)<(k:Int))=decide (0<k):=(by simp);go_upto_if 39 with(fail)
   go_cut [18] (λev wx=>∃em:Int,ev= .int .i64 em/\em<=60000/\Hid (wx=wr));case first=>
    go_wp2_with fail;all_goals go_meet
    ·exact⟨_,rfl,by rw[<-IntWalk.i64_left,YG _ ⟨by have:=Vi.out;omega,by have:=Vi.out;omega⟩];have:=Vi.out;omega,X6 rfl⟩
    ·exact⟨_,rfl,Vi.2,X6 rfl⟩
   case rest=>
   obtain⟨em,rfl,hem,hwx⟩:=hcut;obtain rfl:=hwx.out;clear c0 c1 c2 c3 c4 hwx;go_upto_region 9 with(fail);go_loopw [5,16,19] (λyv ov iv wq=>∃(i:Nat) (rs:List C5),(i=0\/(i:Int)<=em)/\iv= .int .i64 (i:Int)/\(∃a,yv= .int .i64 a)/\rs.length<=k*60001+i/\Hid (FiI ws.length w ov rs wq)) (λ_ _ iv _=>(em-intOf iv).toNat);case atStart=>exact⟨0,rs,.inl rfl,rfl,⟨_,rfl⟩,YL hrs (Nat.le_add_right _ _),HI⟩
   case round=>
    clear HI ED hrs;obtain⟨i,rs2,hi,rfl,⟨yb,rfl⟩,hrs2,qI⟩:=hrel;by_cases hie:(i:Int)<em
    ·have e0:decide ((i:Int)<em)=true:=YC hie;have Vp:IntKind.i64.wrap ((i:Int)+1)=(i:Int)+1:=YG _ ⟨by omega,by omega⟩;have oA:rs2.length+1<=4294967296:=(by have:=Bf.out;have:k*60001<=60000*60001:=aBP _ (by omega);omega);go_wp2_with (at_builtin;refine lM (m:=1) rfl _ _ rfl PV qI.r.o qI.b.size rfl [.int .i64 yb,.int .i64 (k:Int),.int .i64 (k:Int),.slice none 0 0] rfl rfl (by simp[Value.oneCell']) oA (by omega) ?_;intro A6 c6 w6 mF uK oO pa;have BV:=X6 (qI.app ⟨yb,k,k,[],none,0⟩ ⟨YV _ _ _ _,by simpa using hk⟩ oO mF);clear mF uK oO pa);go_roundw;case rel=>exact⟨i+1,_,.inr (by omega),by go_num,⟨_,rfl⟩,by simp;omega,BV⟩
     case measure=>simp[intOf];omega
    ·have e0:decide ((i:Int)<em)=false:=X9 hie;have hrs3:rs2.length<=k*60001+60000:=(by omega);clear hi hrs2 hie;have x2:=JZ.out _ qI.b;have ED:ad.block<wr.heap.size:=YK xZ qI.b.size;go_upto_region 15 with(go_at_call 249;refine(HDN.out _ _ _ _ qI.b).mono ?_;rintro e w3 ⟨⟨ya,fa,ta,rfl⟩,pn⟩;have wI:=X6 (qI.lR pn);clear pn)
     clear x2 ED;obtain⟨w4,wg⟩:∃w4,w4=(w3.alloc (.cells #[fa] 2)).alloc (.cells #[ya,k,lx,.slice w3.heap.size 1 1] 263):=⟨_,rfl⟩;have OZ:Hid (wR w3 ya k 0 [fa] (some ⟨w3.heap.size,0,none⟩) 1 w4):=X6 (by rw[wg];exact wR.new _ _ _ _);rw[<-wg];clear wg;have HWB:=X6 (λW (h:Below w3.heap.size w3 W)=>wI.b.trans (h.mono wI.b.size));have x2:=JZ.out _ (HWB.out _ OZ.b);have ED:ad.block<w4.heap.size:=YK xZ (HWB.out _ OZ.b).size;go_upto_region 17 with(fail)
     clear x2 ED;go_loopw [17,24] (λkv xv wr=>∃(k2:Nat) (xs:List Int) (Ax:Option Addr) (cx:Nat),k<k2/\k2<=ws.length/\xs.length+k=k2/\kv= .int .i64 (k2:Int)/\(∃a,xv= .int .i64 a)/\Hid (wR w3 ya k 0 xs Ax cx wr)) (λkv _ _=>ws.length-(intOf kv).toNat);case atStart=>exact⟨k+1,[fa],_,_,by omega,by omega,by simp;omega,by go_num,⟨_,rfl⟩,OZ⟩
     case round=>
      obtain⟨k2,xs,Ax,cx,Ff,hk2n,hxs,rfl,⟨xa,rfl⟩,HR⟩:=hrel;clear OZ;go_upto_region 17 with(fail);go_cut [114] (λbv wx=>∃b:Bool,bv= .bool b/\(b=true->k2<ws.length)/\Hid (wR w3 ya k 0 xs Ax cx wx));case first=>
       by_cases Ky:k2<ws.length
       ·have e1:decide ((k2:Int)<(ws.length:Int))=true:=YC (by omega);have e1':decide (k2<ws.length)=true:=YC Ky;have hki2:(k2:Int)<(ws.length:Int):=(by omega);obtain⟨FT,e9,_,c0,c1,c2,c3,c4⟩:=(HW.below (HWB.out _ HR.b)).wd rfl Ky;injection e9 with e9
        subst e9;have ED:ad.block<wr.heap.size:=YK xZ (HWB.out _ HR.b).size;obtain⟨f2,D9⟩:∃f2,f2=ws[k2]:=⟨_,rfl⟩;rw[<-D9]at c0 c1 c2 c3 c4;clear D9;cases e2:(f2.forced == 0);all_goals go_quiet (fail)
        all_goals go_wp2_with fail
        all_goals go_meet
        all_goals exact⟨_,rfl,λ_=>Ky,X6 (HR.drewN _)⟩
       ·have e1:decide ((k2:Int)<(ws.length:Int))=false:=X9 (by omega);have e1':decide (k2<ws.length)=false:=X9 Ky;go_quiet (fail);go_wp2_with fail;go_meet;exact⟨_,rfl,(λh=>by cases h),X6 (HR.drewN _)⟩
      case rest=>
       obtain⟨b,rfl,hb,CZ⟩:=hcut;clear HR;cases b
       ·obtain⟨r0,r1,r2,r3⟩:=CZ.r.c4;have rf:=CZ.r.frozen;have rl:=CZ.r.lt;go_upto_region 24 with(fail);have Cw:=X6 (CZ.up_ k2);generalize wc.setCell _ _=w5 at Cw⊢;generalize max (wrap64 (ta-xa)) 0=fr;clear r0 r1 r2 r3 rf rl CZ hb;obtain⟨g9,rfl⟩:=Cw.some_ (by omega);go_loopw [26] (λjv wr=>∃(j:Nat) (ys:List Int),j<=ys.length/\ys.length=xs.length/\jv= .int .i64 (j:Int)/\Hid (wR w3 ya k k2 ys (some ⟨g9,0,none⟩) cx wr)) (λjv _=>xs.length-(intOf jv).toNat);case atStart=>exact⟨0,xs,by omega,rfl,rfl,Cw⟩
        case round=>
         clear Cw;obtain⟨j,ys,hj,hys,rfl,Bh⟩:=hrel;have Q0:=X6 hys;clear hys;obtain⟨y0,y1,y2,y3⟩:=Bh.r.c4;have yl:=Bh.r.lt;by_cases FU:j<ys.length
         ·have e0:decide ((j:Int)<(ys.length:Int))=true:=YC (by omega);have Mc:decide (j<ys.length)=true:=YC FU;have Cq:(j:Int)<(ys.length:Int):=(by omega);have hwj:IntKind.i64.wrap ((j:Int)+1)=(j:Int)+1:=YG _ ⟨by omega,by have:=Bf.out;have:=Q0.out;omega⟩;have G5:=X6 (λW' (h:wR w3 ya k k2 ys (some ⟨g9,0,none⟩) cx W')=>h.look FU);obtain⟨yj,hyj⟩:∃yj,yj=ys[j]:=⟨_,rfl⟩;rw[<-hyj]at G5;clear hyj y0 y1 y2;cases a1:(al == 1)
          ·cases a2:(al == 2)
           ·go_wp2_with fail;go_roundw;case rel=>exact⟨j+1,ys,by omega,Q0.out,by go_num,Bh⟩
            case measure=>have:=Q0.out;simp[intOf];omega
           ·go_upto_region 30 with(fail);clear y3 yl;refine mw (λb _ _ W'=>if b then∃Oe:List Int,Oe.length=xs.length/\wR w3 ya k k2 Oe (some ⟨g9,0,none⟩) cx W' else wR w3 ya k k2 ys (some ⟨g9,0,none⟩) cx W') 12 1000 100000 false true (by kernel_rfl) (by kernel_rfl) (by kernel_rfl) (Bh.drew) ?_;refine xN 0 ?_;iterate 12
             refine Ay (v:=?_) ?_ ?_;rotate_left
             ·intro d' u' W' lr;obtain⟨y3,y9,yf,yg⟩:=G5.out _ lr;go_simp;rfl
             try simp only[Act.put,X8,YF,YE,YD,YA,YB]
            refine mE (i:=12) (d:=true) (λW'=>W'.setCell ⟨g9,j,none⟩ (.int .i64 (IntKind.i64.wrap (yj+IntKind.i64.wrap (fr.tdiv 2))))) rfl (by kernel_rfl) (by rfl) (by rfl) (by kernel_rfl) rfl ?_ (λW' lr=>⟨_,(Xz ..).trans Q0.out,wR.lA lr j _⟩) ?_
            ·intro W' lr;obtain⟨y3,y9,yf,yg⟩:=G5.out _ lr;go_simp;try rfl
            try simp only[Act.put,X8,YF,YE,YD,YA,YB]
            refine F6 (λwS hS=>?_);obtain⟨Oe,hys',hR7⟩:∃Oe:List Int,Oe.length=xs.length/\wR w3 ya k k2 Oe (some ⟨g9,0,none⟩) cx wS:=hS;have UE:=X6 hR7;clear hR7;go_wp2_with fail;go_roundw;case rel=>exact⟨j+1,Oe,by have:=Q0.out;omega,hys',by go_num,UE⟩
            case measure=>have:=Q0.out;simp[intOf];omega
          ·go_upto_region 28 with(fail);clear y3 yl;refine mw (λb _ _ W'=>if b then∃Oe:List Int,Oe.length=xs.length/\wR w3 ya k k2 Oe (some ⟨g9,0,none⟩) cx W' else wR w3 ya k k2 ys (some ⟨g9,0,none⟩) cx W') 11 1000 100000 false true (by kernel_rfl) (by kernel_rfl) (by kernel_rfl) (Bh.drew) ?_;refine xN 0 ?_;iterate 11
            refine Ay (v:=?_) ?_ ?_;rotate_left
            ·intro d' u' W' lr;obtain⟨y3,y9,yf,yg⟩:=G5.out _ lr;go_simp;rfl
            try simp only[Act.put,X8,YF,YE,YD,YA,YB]
           refine mE (i:=11) (d:=true) (λW'=>W'.setCell ⟨g9,j,none⟩ (.int .i64 (IntKind.i64.wrap (yj+fr)))) rfl (by kernel_rfl) (by rfl) (by rfl) (by kernel_rfl) rfl ?_ (λW' lr=>⟨_,(Xz ..).trans Q0.out,wR.lA lr j _⟩) ?_
           ·intro W' lr;obtain⟨y3,y9,yf,yg⟩:=G5.out _ lr;go_simp;try rfl
           try simp only[Act.put,X8,YF,YE,YD,YA,YB]
           refine F6 (λwS hS=>?_);obtain⟨Oe,hys',hR7⟩:∃Oe:List Int,Oe.length=xs.length/\wR w3 ya k k2 Oe (some ⟨g9,0,none⟩) cx wS:=hS;have UE:=X6 hR7;clear hR7;go_wp2_with fail;go_roundw;case rel=>exact⟨j+1,Oe,by have:=Q0.out;omega,hys',by go_num,UE⟩
           case measure=>have:=Q0.out;simp[intOf];omega
         ·have e0:decide ((j:Int)<(ys.length:Int))=false:=X9 (by omega);have Mc:decide (j<ys.length)=false:=X9 FU;have zC:=X6 (wI.lR Bh.b);have oA:rs2.length+1<=4294967296:=(by have:=Bf.out;have:k*60001<=60000*60001:=aBP _ (by omega);omega);go_wp2_with (at_builtin;refine lM (m:=1) rfl _ _ rfl PV zC.r.o zC.b.size rfl [.int .i64 ya,.int .i64 (k:Int),.int .i64 (k2:Int),.slice g9 ys.length cx] rfl rfl (by simp[Value.oneCell']) oA (by omega) ?_;intro A6 c6 w6 mF uK oO pa;have PX:=X6 (zC.app ⟨ya,k,k2,ys,some ⟨g9,0,none⟩,cx⟩ ⟨QY Bh.o wI.b.size,by have:=Q0.out;simp only;omega⟩ oO mF);clear mF uK oO pa);go_roundw;case rel=>exact⟨k2,_,hk2n,rfl,⟨_,rfl⟩,by have h1:(k+1)*60001<=k2*60001:=aBP _ (by omega);rw[Nat.add_mul]at h1;simp;omega,PX⟩
          case measure=>simp[intOf];omega
       ·have Ky:=hb rfl;have hki2:(k2:Int)<(ws.length:Int):=(by omega);have hwk2:IntKind.i64.wrap ((k2:Int)+1)=(k2:Int)+1:=YG _ ⟨by omega,by have:=Bf.out;omega⟩;have HCS:Hid (∃f2:Wd,∀W,Below w3.heap.size w3 W->W.cell? (ad.block,(ad.add (k2*5)).off+2)=some (.int .i64 f2.w)/\W.cell? (ad.block,(ad.add (k2*5)).off+3)=some (.int .i64 f2.gap)/\ad.block<W.heap.size):=X6 ⟨ws[k2],λW h=>by obtain⟨FT,e9,_,c0,c1,c2,c3,c4⟩:=(HW.below (HWB.out _ h)).wd rfl Ky;injection e9 with e9;subst e9;exact⟨c2,c3,YK xZ (HWB.out _ h).size⟩⟩;obtain⟨f2,D9⟩:=HCS.out;have Eu:=X6 D9;clear D9 HCS;go_upto_region 18 with(fail)
        have wG:=X6 CZ.drew;have wZ:Hid (∀W,Below w3.heap.size w3 W->lq W (w3.heap.size+1) 263 #[ya,k,.int .i64 ((0:Nat):Int),.slice Ax xs.length cx]->W.cell? (ad.block,(ad.add (k2*5)).off+3)=some (.int .i64 f2.gap)):=X6 (λW h1 h2=>(Eu.out W h1).2.1);obtain⟨_,_,_,x3⟩:=wG.r.c4;have x3b:∀o,(wc.drew.alloc o).cell? (w3.heap.size+1,3)=some (.slice Ax xs.length cx):=λo=>(wG.r.alloc o).c4.2.2.2;have x3c:∀o,(wc.alloc o).drew.cell? (w3.heap.size+1,3)=some (.slice Ax xs.length cx):=λo=>(wG.r.alloc o).c4.2.2.2;have hcnt3:xs.length+1<=4294967296:=(by have:=Bf.out;omega);refine wp_region_held_drew (S:=λW=>W.cell? (ad.block,(ad.add (k2*5)).off+3)=some (.int .i64 f2.gap)) (by kernel_rfl) (wZ.out _ wG.b wG.r) (λhS=>?_);refine nk [0,2,3,4,5,6,7,8] ?_;iterate 8
         refine tk hS (h:=?_)
        refine np ?_;refine J0 1 9 (λK hK=>?_) (λK hK=>?_)
        ·go_simp;refine ky hK (wZ.out _ wG.b wG.r) λhS=>?_;clear hK;refine mV 9 (λK hK=>?_);go_simp;refine ky hK (wZ.out _ (wG.b.alloc wG.b.size _) (wG.r.alloc _)) λhS=>?_;clear hK;refine mV 10 (λK hK=>?_);refine oS (m:=1) rfl _ _ rfl CP wG.o wG.b.size rfl [_] rfl rfl rfl (by simp[Value.oneCell']) hcnt3 (by omega) ?_;intro A6 c6 w6 mF uK oO pa;have Bh:=X6 (wG.app oO mF);have BY:Below w3.heap.size w3 w6:=wG.b.grown oO wG.b.size (λg e=>(wG.o.lt g e).1);have DY:=wG.r.grown oO (λe=>lD wG.o wG.r (by decide) e.symm);have x6f:=DY.frozen 3;have x6l:=DY.lt;have x6:=DY.c4.2.2.2;clear mF uK oO pa;refine ky hK (wZ.out _ BY DY) λhS=>?_;clear hK;refine nk [11] ?_;refine tk hS (h:=?_);refine np ?_;refine mV 12 (λK hK=>?_);go_simp;refine ky hK (Eu.out _ Bh.b).2.1 λhS=>?_;clear hK;refine nR ?_;clear BY DY x6f x6l x6 hS;generalize w6.setCell _ _=w7 at Bh⊢;obtain⟨x7,x8,x9⟩:=Eu.out _ Bh.b;clear x3 x3b x3c wG CZ;go_upto_region 19 with(fail)
         go_quiet (fail);go_wp2_with fail;go_roundw;case rel=>exact⟨k2+1,_,_,_,by omega,by omega,by simp;omega,by go_num,⟨_,rfl⟩,X6 (Bh.drewN _)⟩
         case measure=>simp[intOf];omega
        ·go_simp;refine ky hK (wZ.out _ (wG.b.alloc wG.b.size _) (wG.r.alloc _)) λhS=>?_;clear hK;refine mV 1 (λK hK=>?_);go_simp;refine ky hK (wZ.out _ (wG.b.alloc wG.b.size _) (wG.r.alloc _)) λhS=>?_;clear hK;refine mV 10 (λK hK=>?_);refine oS (m:=1) rfl _ _ rfl CP wG.o wG.b.size rfl [_] rfl rfl rfl (by simp[Value.oneCell']) hcnt3 (by omega) ?_;intro A6 c6 w6 mF uK oO pa;have Bh:=X6 (wG.app oO mF);have BY:Below w3.heap.size w3 w6:=wG.b.grown oO wG.b.size (λg e=>(wG.o.lt g e).1);have DY:=wG.r.grown oO (λe=>lD wG.o wG.r (by decide) e.symm);have x6f:=DY.frozen 3;have x6l:=DY.lt;have x6:=DY.c4.2.2.2;clear mF uK oO pa;refine ky hK (wZ.out _ BY DY) λhS=>?_;clear hK;refine nk [11] ?_;refine tk hS (h:=?_);refine np ?_;refine mV 12 (λK hK=>?_);go_simp;refine ky hK (Eu.out _ Bh.b).2.1 λhS=>?_;clear hK;refine nR ?_;clear BY DY x6f x6l x6 hS;generalize w6.setCell _ _=w7 at Bh⊢;obtain⟨x7,x8,x9⟩:=Eu.out _ Bh.b;clear x3 x3b x3c wG CZ;go_upto_region 19 with(fail)
         go_quiet (fail);go_wp2_with fail;go_roundw;case rel=>exact⟨k2+1,_,_,_,by omega,by omega,by simp;omega,by go_num,⟨_,rfl⟩,X6 (Bh.drewN _)⟩
         case measure=>simp[intOf];omega
  ·have d0:decide ((k:Int)<(ws.length:Int))=false:=X9 (by omega);have pJ:decide (k<ws.length)=false:=X9 lN;go_wp2_with fail;go_ret2;exact⟨⟨_,_,_,rfl,HI.r,by have:=Bf.out;omega⟩,HI.b⟩
end
end
section
attribute [local go_sem] lp
theorem Xg(a b:Int)(w:World): Calls prog 196 #[.agg #[a,b]] w λe w'=>(∃x,e= .returned (.int .i64 x))/\Below w.heap.size w w':=by go_enter func196,ntmps196;go_wp2_with fail;go_ret;exact⟨⟨_,rfl⟩,bA⟩
theorem uN(a b m:Int)(w:World):Calls prog 228 #[.agg #[a,b],m] w λe w'=>(∃x y,e= .returned (.agg #[.int .i64 x,.int .i64 y]))/\Below w.heap.size w w':=by
 obtain⟨r,hr⟩:∃r,r=ofF [a,b,m]:=⟨_,rfl⟩;have HO:=X6 (λA c W h=>Ub [a,b,m] A c W (by simp) h);rw[<-hr]at HO;clear hr;obtain⟨x,y⟩:=r;go_enter func228,ntmps228;have vY:Hid (∀o o2:Obj,Reads (((w.alloc o).alloc o2).alloc (.cells #[a,b,m] 2)) (((w.alloc o).alloc o2).alloc (.cells #[a,b,m] 2)).heap.size 1 (some ⟨w.heap.size+1+1,0,none⟩) 3 [.int .i64 a,.int .i64 b,.int .i64 m]):=X6 (λo o2=>⟨rfl,λ_=>⟨_,rfl,by simp,λj u hu=>by
  have h:=(lq.at_ ((w.alloc o).alloc o2) 2 #[a,b,m] (g:=w.heap.size+1+1) (by simp)).get j (v:=u) (by simpa using hu);have h0:((⟨w.heap.size+1+1,0,none⟩:Addr).add j)=⟨w.heap.size+1+1,j,none⟩:=by unfold Addr.add;split<;>simp_all
  rw[h0];exact h⟩⟩)
 have Fy:Hid (∀o o2 o3:Obj,Below w.heap.size w (((w.alloc o).alloc o2).alloc o3)):=X6 (λo o2 o3=>(bA.alloc (by simp) _).alloc (by simp;omega) _);have HBR:Hid (∀o:Obj,lq (((w.alloc o).alloc (.cells #[lx,lx] 114)).alloc (.cells #[a,b,m] 2)) (w.heap.size+1) 114 #[lx,lx]):=X6 (λo=>(lq.at_ _ _ _ (by simp)).alloc _);go_wp2_with (go_at_call 253;refine(HO.out _ _ _ (vY.out _ _)).mono ?_;rintro e w2 ⟨rfl,mr⟩;have HB:=X6 ((Fy.out _ _ _).trans (mr.mono (Fy.out _ _ _).size));have HR:=X6 ((HBR.out _).below mr (HBR.out _).lt);clear mr;obtain⟨s0,s1⟩:=HR.c2;have fs:=HR.frozen);refine ZQ (Z2 rfl _ _ (w.heap.size+1) 114 #[_,_] (0,0) _ rfl ((HR.lA 0 x).lA 1 y) underlying114 rfl (by kernel_rfl)) rfl ⟨⟨_,_,rfl⟩,?_⟩;exact(HB.setCell (p:=(w.heap.size+1,0)) (by simp) _).setCell (p:=(w.heap.size+1,1)) (by simp) _
theorem uY(s:me)(a:Int)(w:World): Calls prog 83 #[.agg (lj s).toArray,.int .i64 a] w λe w'=>(∃x,e= .returned (.int .i64 x)/\0<=x)/\Below w.heap.size w w':=by
 have y6:(lj s)[6]'(by rw[lL];omega)= .int .u8 s.h.k:=rfl;have y7:(lj s)[7]'(by rw[lL];omega)= .int .i64 s.h.n:=rfl;have y12:(lj s)[12]'(by rw[lL];omega)= .int .u8 s.xU.k:=rfl;have y13:(lj s)[13]'(by rw[lL];omega)= .int .i64 s.xU.n:=rfl;have y14:(lj s)[14]'(by rw[lL];omega)= .int .u8 s.xY.k:=rfl;have y15:(lj s)[15]'(by rw[lL];omega)= .int .i64 s.xY.n:=rfl;have z:=qD s;cases e1:(s.h.k == 1);all_goals cases e2:(s.xY.k == 1)
 all_goals cases e3:(s.xU.k == 1)
 all_goals
  go_enter func83,ntmps83;go_wp2_with fail
 all_goals go_ret
 all_goals exact⟨⟨_,rfl,by omega⟩,bA⟩
structure CfI(w:World)(L:Value)(be:Bool)(a b d h:Int)(wr:World):Prop where
 f:lq wr w.heap.size 43 #[a,b,d,h,L]
 p:lq wr (w.heap.size+1+1) 153 #[.pointer w.heap.size,.pointer (some ⟨w.heap.size,1,none⟩),.pointer (some ⟨w.heap.size,2,none⟩),.pointer (some ⟨w.heap.size,3,none⟩)]
 r:lq wr (w.heap.size+1) 43 #[lx,lx,lx,lx,lH]
 b:Below w.heap.size w wr
theorem CfI.lA{w wr:World}{L:Value}{be:Bool}{a b d h:Int}(H:CfI w L be a b d h wr)(k:Nat)(hk:k<4)(v:Int):∃a' b' d' h',∀be',CfI w L be' a' b' d' h' (wr.setCell (w.heap.size,k) v):=by
 have hp:=H.p.lQ (p:=(w.heap.size,k)) (by simp;omega) (.int .i64 v);have hr:=H.r.lQ (p:=(w.heap.size,k)) (by simp) (.int .i64 v);have hb:=H.b.setCell (p:=(w.heap.size,k)) (X7 _) (.int .i64 v);have hf:=H.f.lA k v;obtain rfl | rfl | rfl | rfl:k=0\/k=1\/k=2\/k=3:=by omega
 ·exact⟨v,b,d,h,λ_=>⟨hf,hp,hr,hb⟩⟩
 ·exact⟨a,v,d,h,λ_=>⟨hf,hp,hr,hb⟩⟩
 ·exact⟨a,b,v,h,λ_=>⟨hf,hp,hr,hb⟩⟩
 ·exact⟨a,b,d,v,λ_=>⟨hf,hp,hr,hb⟩⟩
theorem K6{fn:Func}{p u:Tmp}(h:fn.results= #[.cell p 43,.tmp u])(tmps:Array Value)(w:World)(g:Nat)(v0 v1 v2 v3 v4:Value)(v:Value)(hp:tmps.getD p undef= .pointer g)(hu:tmps.getD u undef=v)(hg:lq w g 43 #[v0,v1,v2,v3,v4]): (results fn tmps).run prog w= .ok (.tuple #[.agg #[v0,v1,v2,v3,v4],v]) w:=by rw[aC5 h,hp,hu];have h:=aBM (P:=prog) w g 43 43 #[v0,v1,v2,v3,v4] (0,0) _ hg underlying43 rfl (by kernel_rfl);simp[asAddr,h,Result.andThen]
theorem qh(x y d h:Int)(AL:Option Addr)(nL cL:Nat)(w:World): Calls prog 81 #[.agg #[x,y,.int .i64 d,.int .i64 h,.slice AL nL cL]] w λe w'=>(∃a b d h be,e= .returned (.tuple #[.agg #[.int .i64 a,.int .i64 b,.int .i64 d,.int .i64 h,.slice AL nL cL],.bool be]))/\Below w.heap.size w w':=by
 obtain⟨L,hL⟩:∃L,L=Value.slice AL nL cL:=⟨_,rfl⟩;have Cb:=X6 hL;have HC:=X6 (λx W=>qP x W);have vp:Hid (CfI w (.slice AL nL cL) false x y d h (((w.alloc (.cells #[x,y,d,h,.slice AL nL cL] 43)).alloc (.cells #[lx,lx,lx,lx,lH] 43)).alloc (.cells #[.pointer w.heap.size,.pointer (some ⟨w.heap.size,1,none⟩),.pointer (some ⟨w.heap.size,2,none⟩),.pointer (some ⟨w.heap.size,3,none⟩)] 153))):=X6 ⟨((lq.new _ _ _).alloc _).alloc _,lq.at_ _ _ _ (by simp),(lq.at_ _ _ _ (by simp)).alloc _,(bA.alloc (by simp) _).alloc (by simp;omega) _⟩;clear hL;go_enter func81,ntmps81;go_wp2_with fail;go_loopw [4,6] (λbv kv wr=>∃(k:Nat) (be:Bool) (a b d h:Int),k<=4/\kv= .int .i64 (k:Int)/\bv= .bool be/\Hid (CfI w (.slice AL nL cL) be a b d h wr)) (λ_ kv _=>4-(intOf kv).toNat);case atStart=>exact⟨0,false,x,y,d,h,by omega,rfl,rfl,vp⟩
 case round=>
  clear vp;obtain⟨k,be,a,b,d,h,hk,rfl,rfl,HI⟩:=hrel;by_cases lN:k<4
  ·obtain⟨f0,f1,f2,f3,f4⟩:=HI.f.c5;obtain⟨p0,p1,p2,p3⟩:=HI.p.c4;have ff:=HI.f.frozen;have fl:=HI.f.lt;have pl:=HI.p.lt;obtain rfl | rfl | rfl | rfl:k=0\/k=1\/k=2\/k=3:=by omega
   ·cases be
    all_goals
     go_wp2_with (go_at_call 76;refine(HC.out _ _).mono ?_;rintro e w' ⟨rfl,rfl⟩);go_roundw;case rel=>obtain⟨a',b',d',h',H⟩:=HI.lA 0 (by omega) (lU a);exact⟨1,_,a',b',d',h',by omega,by go_num,rfl,X6 (H _)⟩
     case measure=>simp[intOf]
   ·cases be
    all_goals
     go_wp2_with (go_at_call 76;refine(HC.out _ _).mono ?_;rintro e w' ⟨rfl,rfl⟩);go_roundw;case rel=>obtain⟨a',b',d',h',H⟩:=HI.lA 1 (by omega) (lU b);exact⟨2,_,a',b',d',h',by omega,by go_num,rfl,X6 (H _)⟩
     case measure=>simp[intOf]
   ·cases be
    all_goals
     go_wp2_with (go_at_call 76;refine(HC.out _ _).mono ?_;rintro e w' ⟨rfl,rfl⟩);go_roundw;case rel=>obtain⟨a',b',d',h',H⟩:=HI.lA 2 (by omega) (lU d);exact⟨3,_,a',b',d',h',by omega,by go_num,rfl,X6 (H _)⟩
     case measure=>simp[intOf]
   ·cases be
    all_goals
     go_wp2_with (go_at_call 76;refine(HC.out _ _).mono ?_;rintro e w' ⟨rfl,rfl⟩);go_roundw;case rel=>obtain⟨a',b',d',h',H⟩:=HI.lA 3 (by omega) (lU h);exact⟨4,_,a',b',d',h',by omega,by go_num,rfl,X6 (H _)⟩
     case measure=>simp[intOf]
  ·obtain rfl:k=4:=(by omega);obtain⟨f0,f1,f2,f3,f4⟩:=HI.f.c5;obtain⟨r0,r1,r2,r3,r4⟩:=HI.r.c5;have rf:=HI.r.frozen;have rl:=HI.r.lt;have fl:=HI.f.lt;go_wp2_with fail;refine ZQ (K6 rfl _ _ (w.heap.size+1) _ _ _ _ _ _ rfl rfl (((((HI.r.lA 0 _).lA 1 _).lA 2 _).lA 3 _).lA 4 _)) rfl ⟨⟨_,_,_,_,_,rfl⟩,?_⟩;exact((((HI.b.setCell (p:=(w.heap.size+1,0)) (by simp) _).setCell (p:=(w.heap.size+1,1)) (by simp) _).setCell (p:=(w.heap.size+1,2)) (by simp) _).setCell (p:=(w.heap.size+1,3)) (by simp) _).setCell (p:=(w.heap.size+1,4)) (by simp) _
end
end Go.Proofs.YtjhingednpjogaaGreat
