/- Lemmas for ValidRoom; laid together by a program. -/
import Derived.Test.YtjhingednpjogaaGreatOrder
import Derived.Test.YtjhingednpjogaaGreatFb
import Derived.Deep.CutRange
set_option linter.all false
set_option maxRecDepth 100000
set_option maxHeartbeats 2000000
open Go.RowKit
namespace Go.Proofs.YtjhingednpjogaaGreat
open Go.Proofs.Tryz
section
def Bd(M x:Int):Prop:= -M<=x/\x<=M
section
variable{t:List Int}{M:Int}(ht:∀x∈t,Bd M x)(hM:0<=M)
include ht hM
end
def Small(M:Int)(x:Wd):Prop:=Bd (M*(x.up-x.fr)) x.w/\Bd M x.gap/\x.fr<=x.up
theorem WJ(t l:List Int){k:Nat}(h:k<(ng t l).1.length):∃s,(nV l)[k]? =some s/\(ng t l).1[k]=L8 t l (decide (k=0)) s:=by
 have hl:(ng t l).1.length=(nV l).length:=by rw[ng,xe]
 have hk:k<(nV l).length:=by omega
 refine⟨_,YH hk,?_⟩;have e:=YH h;have e2:(ng t l).1[k]? =some (L8 t l (decide (k=0)) (nV l)[k]):=by unfold ng;rw[EW];simp only[List.getElem?_mapIdx,YH hk,aCN]
 exact Option.some.inj (e.symm.trans e2)
end
section
theorem J7(l:List Nd)(adv:List Int)(a b:List Int):lP l adv (a++b)=((lP l adv a).1++(lP l adv b).1,(lP l adv a).2.1++(lP l adv b).2.1,(lP l adv a).2.2 || (lP l adv b).2.2):=by
 induction a with
 | nil=>simp[lP]
 | cons k t ih=>
  simp only[aCI,lP];cases wN l k with
  | none=>exact ih
  | some s=>simp[ih,Yc,Bool.or_assoc]
theorem Ib{l:List Nd}{k:Nat}(h:k<l.length):wN l (k:Int)=some l[k].s:=by unfold wN;rw[YP (by omega),ZM,YH h];rfl
theorem KH(l:List Nd)(adv:List Int){k:Nat}(h:k<l.length):lP l adv [(k:Int)]=((ng adv l[k].s.mu).1,List.replicate (ng adv l[k].s.mu).1.length (k:Int),(ng adv l[k].s.mu).2):=by simp only[lP,Ib h,aAL,Bool.or_false]
theorem JL(l:List Nd)(adv ks:List Int){j k:Nat}(hj:j<ks.length)(hk:ks[j]=(k:Int))(h:k<l.length): lP l adv (ks.take (j+1))=((lP l adv (ks.take j)).1++(ng adv l[k].s.mu).1,(lP l adv (ks.take j)).2.1++List.replicate (ng adv l[k].s.mu).1.length (k:Int),(lP l adv (ks.take j)).2.2 || (ng adv l[k].s.mu).2):=by rw[aB8,YH hj,hk,Option.toList_some,J7,KH l adv h]
theorem VE(l:List Nd)(adv ks:List Int):(lP l adv ks).1.length=(lP l adv ks).2.1.length:=by
 induction ks with
 | nil=>rfl
 | cons k t ih=>
  simp only[lP];cases wN l k with
  | none=>exact ih
  | some s=>simp[ih]
theorem Gr(t l:List Int):(ng t l).1.length<=l.length:=by rw[ng,xe];exact Oo l
def Pd(l:List Nd)(ks:List Int):Nat:=(ks.map λk=>((wN l k).map λs=>s.mu.length).getD 0).sum
theorem JH(l:List Nd)(adv ks:List Int):(lP l adv ks).1.length<=Pd l ks:=by
 induction ks with
 | nil=>simp[lP,Pd]
 | cons k t ih=>
  unfold Pd at ih⊢;simp only[lP,Y6,ZF];cases wN l k with
  | none=>simpa using ih
  | some s=>have:=Gr adv s.mu;simp;omega
theorem Wo(l:List Nd)(ks:List Int)(j:Nat):Pd l (ks.take j)<=Pd l ks:=by
 induction ks generalizing j with
 | nil=>simp
 | cons k t ih=>
  cases j with
  | zero=>simp[Pd]
  | succ j=>have:=ih j;unfold Pd at this⊢;simp only[Y0,Y6,ZF];omega
theorem O9(x:Int): -1099511627776<=lU x/\lU x<=1099511627776:=by have:=zi x;omega
theorem M7(t l:List Int):∀x∈(ng t l).1,(-1099511627776<=x.w/\x.w<=1099511627776)/\(-1099511627776<=x.gap/\x.gap<=1099511627776):=by
 intro x hx;obtain⟨k,hk,rfl⟩:=aBQ.1 hx;obtain⟨s,hs,e⟩:=WJ t l hk;rw[e];refine⟨O9 _,?_⟩;show -1099511627776<=(if vW _ s=true then lU _ else 0)/\(if vW _ s=true then lU _ else 0)<=1099511627776
 split
 ·exact O9 _
 ·omega
theorem Pf{l:List Nd}{adv ks:List Int}{x:Wd}(h:x∈(lP l adv ks).1):∃u,x∈(ng adv u).1:=by
 induction ks with
 | nil=>simp[lP]at h
 | cons k t ih=>
  simp only[lP]at h;cases hs:wN l k with
  | none=>rw[hs]at h;exact ih h
  | some s=>
   rw[hs]at h;rcases YW.1 h with h | h
   ·exact⟨_,h⟩
   ·exact ih h
theorem Zb(l:List Nd)(adv ks:List Int):∀x∈(lP l adv ks).1,(-1099511627776<=x.w/\x.w<=1099511627776)/\(-1099511627776<=x.gap/\x.gap<=1099511627776):=λx hx=>by
 obtain⟨u,h⟩:=Pf hx;exact M7 adv u x h
theorem gat_ws(l:List Nd)(adv ks:List Int):VH (lP l adv ks).1:=λx hx=>by
 obtain⟨h1,h2⟩:=Zb l adv ks x hx;exact⟨by omega,by omega⟩
end
section
theorem K0(l:List Int)(k:Nat):∀s∈(sc l k).out,s.ends<=k:=by
 induction k with
 | zero=>intro s hs;simp[sc]at hs
 | succ k ih=>
  have he:=CR l k;have hold:∀s∈(sc l k).out,s.ends<=k+1:=λs hs=>aBN (ih s hs);have hnew:∀x:Sp,x.ends=(sc l k).s.ends->∀s∈(sc l k).out++[x],s.ends<=k+1:=λx hx s hs=>by
   rcases YW.1 hs with h | h
   ·exact hold s h
   ·simp only[Y7,ZD,DA]at h;subst h;omega
  simp only[sc,xd]
  split
  ·split
   ·exact hnew _ rfl
   ·exact hold
  ·split
   ·split
    ·exact hnew _ rfl
    ·exact hold
   ·split
    ·exact hold
    ·exact hold
theorem KO(l:List Int):∀s∈nV l,s.ends<=l.length:=by
 intro s hs;unfold nV at hs
 split at hs
 ·rcases YW.1 hs with h | h
  ·exact K0 l _ s h
  ·simp only[Y7,ZD,DA]at h;subst h;exact CR l _
 ·exact K0 l _ s hs
theorem za(t l:List Int)(M:Nat)(pre:List Sp):∀c:List Wd×Bool,(∀x∈c.1,0<=x.forced/\x.forced<=(M:Int))->(∀s∈pre,s.ends<=M)->∀x∈(pre.foldl (r6 t l) c).1,0<=x.forced/\x.forced<=(M:Int):=by
 induction pre with
 | nil=>intro c hc _ x hx;exact hc x hx
 | cons s pre ih=>
  intro c hc hs;rw[aB0];refine ih _ (λx hx=>?_) (λs' h=>hs s' (aCM _ h));simp only[r6]at hx;rcases YW.1 hx with h | h
  ·exact hc x h
  ·simp only[Y7,ZD,DA]at h;have h1:=hs s (aB1 ..);subst h;simp only[L8];omega
theorem Fx(t l:List Int):∀x∈(ng t l).1,0<=x.forced/\x.forced<=(l.length:Int):=za t l l.length (nV l) ([],false) (by simp) (KO l)
theorem Mt(l:List Nd)(adv ks:List Int)(M:Nat)(h:∀x∈l,x.s.mu.length<=M):∀x∈(lP l adv ks).1,0<=x.forced/\x.forced<=(M:Int):=by
 induction ks with
 | nil=>intro x hx;simp[lP]at hx
 | cons k t ih=>
  intro x hx;simp only[lP]at hx;cases e:wN l k with
  | none=>rw[e]at hx;exact ih x hx
  | some s=>
   rw[e]at hx;simp only at hx;rcases YW.1 hx with h1 | h1
   ·have h2:=Fx adv s.mu x h1;have h3:s.mu.length<=M:=by
     unfold wN at e
     split at e
     ·cases e2:l[k.toNat]? with
      | none=>rw[e2]at e;cases e
      | some y=>rw[e2]at e;simp only[aCN,Option.some.injEq]at e;subst e;exact h y (List.mem_of_getElem? e2)
     ·cases e
    omega
   ·exact ih x h1
end
section
attribute [local go_sem] lp
theorem yd{w:World}{B:Nat}{ad:Addr}{i:Nat}{x:Nd}(h:Ki w B (ad.add (i*44)) x): w.cell? (ad.add (i*44))=x.parent/\w.cell? (ad.block,(ad.add (i*44)).off+1)=some (.int .u8 x.s.kind)/\w.cell? (ad.block,(ad.add (i*44)).off+1+1)=some (.bool x.s.Iw)/\w.cell? (ad.block,(ad.add (i*44)).off+1+2)=some (.int .u8 x.s.float):=by have e:(ad.add (i*44)).block=ad.block:=lp _ _;have g:=h.range;rw[e]at g;exact⟨h.par,g 0 _ rfl,g 1 _ rfl,g 2 _ rfl⟩
def mZ(l:List Nd)(i:Nat):Bool:=match l[i]? with
 | none=>false
 | some x=> !(x.s.kind == 3) && (i == 0 || x.s.kind == 2 || x.s.Iw || !(x.s.float == 0) || (match l[(nB l i).toNat]? with
  | none=>false
  | some y=>decide (0<=nB l i) && y.s.kind == 2))
section
variable(l:List Nd)(A A2:Option Addr)(c m c2:Nat)(view:Int)(w:World)
theorem PK(i:Nat)(hi:i<l.length)(hn:l.length<=65536)(hr:Reads w w.heap.size 44 A l.length (lI l)): Calls prog 40 #[.agg #[.slice A l.length c,.slice A2 m c2,view],.int .i64 i] w λe w'=>e= .returned (.int .i64 (nB l i))/\Below w.heap.size w w':=by
 obtain⟨ad,rfl,pN⟩:=hr.nd rfl hi;obtain⟨y0,-,-,-⟩:=yd pN;have hb:ad.block<w.heap.size:=by have:=pN.lt;rwa[lp]at this
 obtain⟨P,hP⟩:∃P,l[i].parent=P:=⟨_,rfl⟩;have HP:Hid (nB l i=if 0<=P/\P<i then P else -1):=X6 (by unfold nB;rw[YH hi];simp only[hP]);rw[hP]at y0;have wQ:(i:Int)<(l.length:Int):=by omega
 clear pN hr hP;by_cases h0:P<0
 ·have d1:decide (P<0)=true:=YC h0;go_enter func40,ntmps40;go_wp2_with fail;go_ret;exact⟨by rw[HP.out,YO (by omega)];rfl,bA⟩
 ·have d1:decide (P<0)=false:=X9 h0;by_cases h1:(i:Int)<=P
  ·have d2:decide ((i:Int)<=P)=true:=YC h1;go_enter func40,ntmps40;go_wp2_with fail;go_ret;exact⟨by rw[HP.out,YO (by omega)];rfl,bA⟩
  ·have d2:decide ((i:Int)<=P)=false:=X9 h1;go_enter func40,ntmps40;go_wp2_with fail;go_ret;exact⟨by rw[HP.out,YP (by omega)];rfl,bA⟩
theorem Bk(i:Nat)(hi:i<l.length)(hn:l.length<=65536)(hr:Reads w w.heap.size 44 A l.length (lI l)): Calls prog 32 #[.agg #[.slice A l.length c,.slice A2 m c2,view],.int .i64 i] w λe w'=>e= .returned (.bool (mZ l i))/\Below w.heap.size w w':=by
 have HU:=X6 (λ(W:World) (hb:Below w.heap.size w W)=>PK l A A2 c m c2 view W i hi hn ((hr.below hb).more hb.size));have HR:=X6 hr;obtain⟨ad,rfl,pN⟩:=hr.nd rfl hi;obtain⟨-,y0,y1,y2⟩:=yd pN;have hb:ad.block<w.heap.size:=by have:=pN.lt;rwa[lp]at this
 have d1:decide ((i:Int)<0)=false:=X9 (by omega);have d2:decide ((l.length:Int)<=(i:Int))=false:=X9 (by omega);obtain⟨kd,Cl⟩:∃x,l[i].s.kind=x:=⟨_,rfl⟩;obtain⟨fw,hfw⟩:∃x,l[i].s.Iw=x:=⟨_,rfl⟩;obtain⟨fl,Aj⟩:∃x,l[i].s.float=x:=⟨_,rfl⟩;obtain⟨p,hp⟩:∃x,nB l i=x:=⟨_,rfl⟩;have S8:=qg l i;rw[hp]at S8;have HX:Hid (mZ l i=(!(kd == 3) && (i == 0 || kd == 2 || fw || !(fl == 0) || (match l[p.toNat]? with
  | none=>false
  | some y=>decide (0<=p) && y.s.kind == 2)))):=X6 (by unfold mZ;rw[YH hi];simp only[Cl,hfw,Aj,hp])
 rw[Cl]at y0;rw[hfw]at y1;rw[Aj]at y2;rw[hp]at HU;clear pN Cl hfw Aj hp hr;by_cases h3:kd=3
 ·have e3:(kd == 3)=true:=ZR.2 h3;have HE:Hid (mZ l i=false):=X6 (by rw[HX.out,e3];rfl);clear h3 HX HU HR;go_enter func32,ntmps32;go_wp2_with fail;go_ret;exact⟨by rw[HE.out];rfl,bA⟩
 have e3:(kd == 3)=false:=ZO.2 h3;clear h3;by_cases h0:i=0
 ·have d3:((i:Int) == 0)=true:=by simp[h0]
  have HE:Hid (mZ l i=true):=X6 (by rw[HX.out,e3,h0];rfl);clear h0 HX HU HR;go_enter func32,ntmps32;go_wp2_with fail;go_ret;exact⟨by rw[HE.out];rfl,bA⟩
 have d3:((i:Int) == 0)=false:=by simpa using(show¬((i:Int)=0) by omega)
 have d0:(i == 0)=false:=ZO.2 h0;by_cases h2:kd=2
 ·have e2:(kd == 2)=true:=ZR.2 h2;have HE:Hid (mZ l i=true):=X6 (by rw[HX.out,e3,d0,e2];rfl);clear h0 h2 HX HU HR d0;go_enter func32,ntmps32;go_wp2_with fail;go_ret;exact⟨by rw[HE.out];rfl,bA⟩
 have e2:(kd == 2)=false:=ZO.2 h2;clear h2;cases fw;rotate_left
 ·have HE:Hid (mZ l i=true):=X6 (by rw[HX.out,e3,d0,e2];rfl);clear h0 HX HU HR d0;go_enter func32,ntmps32;go_wp2_with fail;go_ret;exact⟨by rw[HE.out];rfl,bA⟩
 by_cases hf:fl=0;rotate_left
 ·have d4:(fl == 0)=false:=ZO.2 hf;have d5:(fl != 0)=true:=by rw[bne,d4];rfl
  have HE:Hid (mZ l i=true):=X6 (by rw[HX.out,e3,d0,e2,d4];rfl);clear h0 hf HX HU HR d0;go_enter func32,ntmps32;go_wp2_with fail;go_ret;exact⟨by rw[HE.out];rfl,bA⟩
 have d4:(fl == 0)=true:=ZR.2 hf;have d5:(fl != 0)=false:=by rw[bne,d4];rfl
 clear hf;by_cases R9:0<=p
 ·obtain⟨q,rfl⟩:=ZY R9;have pW:q<l.length:=by omega
  obtain⟨Rv,e9,Wx⟩:=HR.nd rfl pW;cases e9;obtain⟨-,x0,-,-⟩:=yd Wx;obtain⟨kq,hkq⟩:∃x,l[q].s.kind=x:=⟨_,rfl⟩;rw[hkq]at x0;have HE:Hid (mZ l i=(kq == 2)):=X6 (by rw[HX.out,e3,d0,e2,d4,ZM,YH pW];simp only[hkq];simp);have g1:decide ((0:Int)<=(q:Int))=true:=YC (by omega);have QF:(q:Int)<(l.length:Int):=by omega
  have hq3:(0:Int)<=(q:Int):=by omega
  have HY:Hid (∀w1,Below (w.alloc (.cells #[.slice (some ad) l.length c,.slice A2 m c2,view] 25)).heap.size (w.alloc (.cells #[.slice (some ad) l.length c,.slice A2 m c2,view] 25)) w1->w1.cell? (w.heap.size,0)=some (.slice (some ad) l.length c)/\w1.cell? (ad.block,(ad.add (q*44)).off+1)=some (.int .u8 kq)/\ad.block<w1.heap.size/\Below w.heap.size w w1):=X6 (λw1 nY=>⟨(nY.cell (p:=(w.heap.size,0)) (by simp)).trans (lq.c3 (lq.new w 25 #[.slice (some ad) l.length c,.slice A2 m c2,view])).1,(nY.cell (p:=(ad.block,(ad.add (q*44)).off+1)) (by simp;omega)).trans ((ZV w _ (⟨ad.block,(ad.add (q*44)).off+1,none⟩:Addr) hb).trans x0),by have:=nY.size;simp at this;omega,bA.trans (nY.mono (by simp))⟩);have HU2:=X6 (HU.out (w.alloc (.cells #[.slice (some ad) l.length c,.slice A2 m c2,view] 25)) bA);clear h0 Wx HU HR HX d0 R9 S8 hkq x0;go_enter func32,ntmps32;go_wp2_with (go_at_call 40;refine HU2.mono ?_;rintro e w1 ⟨rfl,nY⟩;obtain⟨z0,x1,mr,Xm⟩:=HY.out w1 nY;have HLOW:=X6 Xm;clear Xm);go_ret;exact⟨by rw[HE.out];rfl,HLOW.out⟩
 ·have g1:decide ((0:Int)<=p)=false:=X9 R9;have HE:Hid (mZ l i=false):=X6 (by rw[HX.out,e3,d0,e2,d4,g1];cases l[p.toNat]?<;>rfl);have HU2:=X6 (HU.out (w.alloc (.cells #[.slice (some ad) l.length c,.slice A2 m c2,view] 25)) bA);clear h0 HU HR HX d0 R9 S8;go_enter func32,ntmps32;go_wp2_with (go_at_call 40;refine HU2.mono ?_;rintro e w1 ⟨rfl,nY⟩;have HLOW:=X6 (((ZN w.heap.size w).alloc (X7 _) (.cells #[.slice (some ad) l.length c,.slice A2 m c2,view] 25)).trans (nY.mono (by simp)));clear nY);go_ret;exact⟨by rw[HE.out];rfl,HLOW.out⟩
end
end
section
attribute [local go_sem] lp
section
variable(l:List Nd)(A A2:Option Addr)(c m c2:Nat)(view:Int)(w:World)
theorem qc(i:Nat)(hi:i<l.length)(hn:l.length<=65536)(hr:Reads w w.heap.size 44 A l.length (lI l))(huv:∃Au nu cu,l[i].s.uv= .slice Au nu cu): Calls prog 31 #[.agg #[.slice A l.length c,.slice A2 m c2,view],.int .i64 i] w λe w'=>e= .returned (.bool (mZ l i))/\Below w.heap.size w w':=by
 obtain⟨w1,mW⟩:∃w1,w1=w.alloc (.cells #[.slice A l.length c,.slice A2 m c2,view] 25):=⟨_,rfl⟩;have mA:Hid (Below w.heap.size w w1):=X6 (by rw[mW];exact bA);have oW:Hid (lq w1 w.heap.size 25 #[.slice A l.length c,.slice A2 m c2,view]):=X6 (by rw[mW];exact lq.new _ _ _);obtain⟨gT,D4⟩:∃g,g=w.heap.size:=⟨_,rfl⟩;have HU:=X6 (λ(W:World) (hb:Below w.heap.size w W)=>sZ l A A2 c m c2 view W i hi (by omega) ((hr.below hb).more hb.size));have HR:=X6 hr;obtain⟨ad,rfl,pN⟩:=hr.nd rfl hi;have X0:=X6 (λW (hb:Below w.heap.size w W)=>(HR.below hb).nd rfl hi);obtain⟨kd,Cl⟩:∃x,l[i].s.kind=x:=⟨_,rfl⟩;obtain⟨_,_,_,huv⟩:=huv;have HO:=X6 (me.one l[i].s huv);go_enter func31,ntmps31;go_upto_region 1 with(fail);rw[<-mW,<-D4];rw[<-D4]at oW;clear mW D4 hr pN;obtain⟨t0,t1,t2⟩:=oW.c3;obtain⟨Rv,e9,Rb⟩:=X0.out w1 mA.out;cases e9;obtain⟨-,y0,-,-⟩:=yd Rb;rw[Cl]at y0;have hb:ad.block<w1.heap.size:=aA7 w1 ⟨ad.block,(ad.add (i*44)).off+1,none⟩ y0;have T8:Hid (w1.rangeAt ad.block ((ad.add (i*44)).off+1) (lj l[i].s)):=X6 (by have g:=Rb.range;rw[lp]at g;exact g);have d1:decide ((i:Int)<0)=false:=X9 (by omega);have d2:decide ((l.length:Int)<=(i:Int))=false:=X9 (by omega);have wQ:(i:Int)<(l.length:Int):=by omega
 obtain⟨fw,hfw⟩:∃x,l[i].s.Iw=x:=⟨_,rfl⟩;obtain⟨fl,Aj⟩:∃x,l[i].s.float=x:=⟨_,rfl⟩;obtain⟨p,hp⟩:∃x,nB l i=x:=⟨_,rfl⟩;have S8:=qg l i;rw[hp]at S8;have HX:Hid (mZ l i=(!(kd == 3) && (i == 0 || kd == 2 || fw || !(fl == 0) || (match l[p.toNat]? with
  | none=>false
  | some y=>decide (0<=p) && y.s.kind == 2)))):=X6 (by unfold mZ;rw[YH hi];simp only[Cl,hfw,Aj,hp]<;>rfl)
 rw[hp]at HU;have Ct:=X6 (And.intro Cl (And.intro hfw Aj));clear Rb Cl hfw Aj hp huv;by_cases h3:kd=3
 ·have e3:(kd == 3)=true:=ZR.2 h3;have HE:Hid (mZ l i=false):=X6 (by rw[HX.out,e3];rfl);have oK:=mA;clear h3;go_wp2_with fail;go_ret;exact⟨by rw[HE.out];rfl,oK.out⟩
 have e3:(kd == 3)=false:=ZO.2 h3;clear h3;go_upto_region 4 with(first
  | refine wpList_load_mid rfl 63 (.tmp 30) rfl ad.block ((ad.add (i*44)).off+1) rfl (lj l[i].s) _ T8.out underlying63 rfl (by kernel_rfl) ?_
  | refine lJ rfl 63 _ _ rfl _ rfl (lj l[i].s).toArray rfl rfl 63 _ (by kernel_rfl) rfl HO.out ?_)
 obtain⟨w2,ph⟩:∃w2,w2=w1.alloc (.cells (lj l[i].s).toArray 63):=⟨_,rfl⟩;obtain⟨g5,CT⟩:∃g,g=w1.heap.size:=⟨_,rfl⟩;have H2:Hid (lq w2 g5 63 (lj l[i].s).toArray/\lq w2 gT 25 #[.slice (some ad) l.length c,.slice A2 m c2,view]/\Below w.heap.size w w2):=X6 (by rw[ph];exact⟨lq.at_ _ _ _ CT,oW.alloc _,mA.alloc mA.size _⟩);rw[<-ph,<-CT];clear ph CT t0 t1 t2 y0 hb T8;obtain⟨t0,t1,t2⟩:=H2.2.1.c3;go_upto_region 5 with(go_at_call 49;refine(HU.out w2 H2.2.2).mono ?_;rintro e w3 ⟨rfl,zB⟩;have qO:=X6 zB;clear zB);have H3:Hid (lq w3 g5 63 (lj l[i].s).toArray/\lq w3 gT 25 #[.slice (some ad) l.length c,.slice A2 m c2,view]):=X6 (by rw[<-qO.out];exact⟨H2.1.alloc _,H2.2.1.alloc _⟩);have oK:Hid (Below w.heap.size w w3):=X6 (by rw[<-qO.out];exact H2.2.2.alloc H2.2.2.size _);clear t0 t1 t2 H2 qO;obtain⟨t0,t1,t2⟩:=H3.2.c3;have c0:w3.cell? (g5,0)=some (.int .u8 kd):=by rw[<-Ct.1];exact H3.1.get 0 rfl
 have c1:w3.cell? (g5,1)=fw:=by rw[<-Ct.2.1];exact H3.1.get 1 rfl
 have c2':w3.cell? (g5,2)=some (.int .u8 fl):=by rw[<-Ct.2.2];exact H3.1.get 2 rfl
 clear Ct;by_cases h0:i=0
 ·have d3:((i:Int) == 0)=true:=by simp[h0]
  have HE:Hid (mZ l i=true):=X6 (by rw[HX.out,e3,h0];rfl);clear h0;go_wp2_with fail;go_ret;exact⟨by rw[HE.out];rfl,oK.out⟩
 have d3:((i:Int) == 0)=false:=by simpa using(show¬((i:Int)=0) by omega)
 have d0:(i == 0)=false:=ZO.2 h0;by_cases h2:kd=2
 ·have e2:(kd == 2)=true:=ZR.2 h2;have HE:Hid (mZ l i=true):=X6 (by rw[HX.out,e3,d0,e2];rfl);clear h2 h0 d0;go_wp2_with fail;go_ret;exact⟨by rw[HE.out];rfl,oK.out⟩
 have e2:(kd == 2)=false:=ZO.2 h2;clear h2;cases fw;rotate_left
 ·have HE:Hid (mZ l i=true):=X6 (by rw[HX.out,e3,d0,e2];rfl);clear h0 d0;go_wp2_with fail;go_ret;exact⟨by rw[HE.out];rfl,oK.out⟩
 by_cases hf:fl=0;rotate_left
 ·have d4:(fl == 0)=false:=ZO.2 hf;have d5:(fl != 0)=true:=by rw[bne,d4];rfl
  have HE:Hid (mZ l i=true):=X6 (by rw[HX.out,e3,d0,e2,d4];rfl);clear hf h0 d0;go_wp2_with fail;go_ret;exact⟨by rw[HE.out];rfl,oK.out⟩
 have d4:(fl == 0)=true:=ZR.2 hf;have d5:(fl != 0)=false:=by rw[bne,d4];rfl
 clear hf;by_cases R9:0<=p
 ·obtain⟨q,rfl⟩:=ZY R9;have pW:q<l.length:=by omega
  obtain⟨Rv,e9,Wx⟩:=(HR.below oK.out).nd rfl pW;cases e9;obtain⟨-,x0,-,-⟩:=yd Wx;obtain⟨kq,hkq⟩:∃x,l[q].s.kind=x:=⟨_,rfl⟩;rw[hkq]at x0;have HE:Hid (mZ l i=(kq == 2)):=X6 (by rw[HX.out,e3,d0,e2,d4,ZM,YH pW];simp only[hkq];simp);have g1:decide ((0:Int)<=(q:Int))=true:=YC (by omega);have QF:(q:Int)<(l.length:Int):=by omega
  have hq3:(0:Int)<=(q:Int):=by omega
  have hb:ad.block<w3.heap.size:=aA7 w3 ⟨ad.block,(ad.add (q*44)).off+1,none⟩ x0;clear h0 d0 Wx hkq R9 S8;go_wp2_with fail;go_ret;exact⟨by rw[HE.out];rfl,oK.out⟩
 ·have g1:decide ((0:Int)<=p)=false:=X9 R9;have HE:Hid (mZ l i=false):=X6 (by rw[HX.out,e3,d0,e2,d4,g1];cases l[p.toNat]?<;>rfl);clear h0 d0 R9 S8;go_wp2_with fail;go_ret;exact⟨by rw[HE.out];rfl,oK.out⟩
end
end
section
def ny(l:List Nd):Nat->Nat->Nat
 | 0,_=>0
 | f+1,b=>1+((oF l b).map λk=>ny l f k.toNat).sum
theorem D6{α:Type}(l:List α)(f g:α->Nat)(h:∀x∈l,f x<=g x):(l.map f).sum<=(l.map g).sum:=by
 induction l with
 | nil=>simp
 | cons a t ih=>have h1:=h a (by simp);have h2:=ih λx hx=>h x (by simp[hx]);simp only[Y6,ZF];omega
theorem Uk(l:List Nd):∀f b,ny l f b<=ny l (f+1) b:=by
 intro f;induction f with
 | zero=>intro b;simp[ny]
 | succ f ih=>intro b;rw[ny,ny];have:=D6 (oF l b) (λk=>ny l f k.toNat) (λk=>ny l (f+1) k.toNat) (λk _=>ih _);omega
def frS(l:List Nd)(f m:Nat):Nat:=(((List.range l.length).filter λx=>decide (m<=x) && decide (nB l x<(m:Int))).map (ny l f)).sum
theorem Hd{α:Type}(l:List α)(p q:α->Bool)(f:α->Nat)(h:∀x∈l,¬(p x=true/\q x=true)):((l.filter λx=>p x || q x).map f).sum=((l.filter p).map f).sum+((l.filter q).map f).sum:=by
 induction l with
 | nil=>simp
 | cons a t ih=>have h1:=h a (by simp);have h2:=ih λx hx=>h x (by simp[hx]);simp only[VN];cases hp:p a<;>cases hq:q a<;>simp_all<;>omega
theorem filter_one(n m:Nat)(hm:m<n)(p:Nat->Bool)(hp:p m=true)(hq:∀x,p x=true->x=m):(List.range n).filter p=[m]:=by
 induction n with
 | zero=>omega
 | succ n ih=>
  rw[Xb,aCX];by_cases h:m=n
  ·subst h;have h1:(List.range m).filter p=[]:=(by rw[List.filter_eq_nil_iff];intro x hx hpx;have:=hq x hpx;have:=ZK.1 hx;omega);rw[h1];simp[hp]
  ·rw[ih (by omega)];have:p n=false:=by
    cases e:p n
    ·rfl
    ·exact absurd (hq n e).symm h
   simp[this]
theorem frS_le(l:List Nd)(f:Nat):∀(d m:Nat),m+d=l.length->frS l f m<=d:=by
 have Cz:∀i,i<l.length->nB l i<(i:Int):=λi _=>(qg l i).2;intro d;induction d with
 | zero=>
  intro m hm;unfold frS;have:((List.range l.length).filter λx=>decide (m<=x) && decide (nB l x<(m:Int)))=[]:=by rw[List.filter_eq_nil_iff];intro x hx;have:=ZK.1 hx;simp;omega
  rw[this];simp
 | succ d ih=>
  intro m hm;have h1:=ih (m+1) (by omega);have hml:m<l.length:=by omega
  have hpm:=Cz m hml;have e1:frS l f m=ny l f m+(((List.range l.length).filter λx=>decide (m+1<=x) && decide (nB l x<(m:Int))).map (ny l f)).sum:=by
   unfold frS;rw[show(λx:Nat=>decide (m<=x) && decide (nB l x<(m:Int)))=(λx=>decide (x=m) || (decide (m+1<=x) && decide (nB l x<(m:Int)))) by
    funext x;by_cases hx:x=m
    ·subst hx;simp[hpm]
    ·by_cases h2:m<=x
     ·have:m+1<=x:=(by omega);simp[hx,h2,this]
     ·have:¬m+1<=x:=(by omega);simp[hx,h2,this]]
   rw[Hd _ _ _ _ (by intro x _ ⟨h2,h3⟩;simp at h2 h3;omega),filter_one _ m hml _ (by simp) (by intro x hx;simpa using hx)];simp
  have e2:frS l f (m+1)=(((List.range l.length).filter λx=>decide (m+1<=x) && decide (nB l x<(m:Int))).map (ny l f)).sum+((oF l m).map λk=>ny l f k.toNat).sum:=by
   unfold frS oF;rw[List.map_map,show((λk:Int=>ny l f k.toNat)∘Int.ofNat)=ny l f by funext x;simp];rw[show((List.range l.length).filter λx=>decide (m+1<=x) && decide (nB l x<((m+1:Nat):Int)))=(List.range l.length).filter λx=>(decide (m+1<=x) && decide (nB l x<(m:Int))) || (nB l x == (m:Int)) by
    apply List.filter_congr;intro x hx;have hxl:=ZK.1 hx;have:=Cz x hxl;by_cases h2:nB l x=(m:Int)
    ·have h3:m+1<=x:=(by omega);have h4:decide (nB l x<((m+1:Nat):Int))=true:=YC (by omega);have h5:(nB l x == (m:Int))=true:=(by simp[h2]);rw[h4,h5,YC h3];simp
    ·by_cases h3:m+1<=x
     ·by_cases h4:nB l x<(m:Int)
      ·have h5:decide (nB l x<((m+1:Nat):Int))=true:=YC (by omega);rw[h5,YC h3,YC h4];simp
      ·have:¬nB l x<((m+1:Nat):Int):=(by omega);have h5:(nB l x == (m:Int))=false:=(by simp[h2]);rw[X9 this,X9 h4,h5,YC h3];simp
     ·have h5:(nB l x == (m:Int))=false:=(by simp[h2]);rw[h5,X9 h3];simp]
   exact Hd _ _ _ _ (by intro x _ ⟨h2,h3⟩;simp at h2 h3;omega)
  have e3:ny l f m<=1+((oF l m).map λk=>ny l f k.toNat).sum:=by
   cases f with
   | zero=>simp[ny]
   | succ f=>rw[ny];have:=D6 (oF l m) (λk=>ny l f k.toNat) (λk=>ny l (f+1) k.toNat) (λk _=>Uk l f _);omega
  omega
theorem Nk{α:Type}(l:List α)(f:α->Nat)(x:α)(h:x∈l):f x<=(l.map f).sum:=by
 induction l with
 | nil=>simp at h
 | cons a t ih=>
  rcases Y7.1 h with rfl | h
  ·simp
  ·have:=ih h;simp only[Y6,ZF];omega
theorem TL(l:List Nd)(f r:Nat)(hr:r<l.length):ny l f r<=l.length:=by
 have h:=frS_le l f (l.length-r) r (by omega);have h2:ny l f r<=frS l f r:=by unfold frS;exact Nk _ (ny l f) r (ZI.2 ⟨ZK.2 hr,by simp[(qg l r).2]⟩)
 omega
theorem dsz_pos(l:List Nd)(f b:Nat)(h:0<f):0<ny l f b:=by
 cases f with
 | zero=>omega
 | succ f=>rw[ny];omega
end
end Go.Proofs.YtjhingednpjogaaGreat
