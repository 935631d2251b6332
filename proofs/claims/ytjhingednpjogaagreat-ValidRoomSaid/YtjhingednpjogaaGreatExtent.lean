/- Lemmas for ValidRoom; laid together by a program. -/
import Derived.Test.YtjhingednpjogaaGreatOrder
import Derived.Test.YtjhingednpjogaaGreatFb
import Derived.Deep.CutRange
import Derived.Test.YtjhingednpjogaaGreatTk
import Derived.RangeFuncNested
import Derived.RangeFuncBound
import Derived.RangeFuncCalls
import Derived.RangeFuncLeaves
import Derived.OwnWalkIn
import Derived.TacticsInMore
import Derived.LoopNIn
import Derived.LoopIn
import Derived.Shelf.RegionOpen
import Derived.CallsIn
set_option linter.all false
set_option maxRecDepth 100000
set_option maxHeartbeats 1000000
namespace Go.Proofs.YtjhingednpjogaaGreat
open Go.Proofs.Tryz
section
open Go.RowKit
attribute [local go_sem] lp
def pO(w:World)(B:Nat)(v:Value)(l:List Int):Prop:=∃A c,v= .slice A l.length c/\(A=none->c=0)/\l.length<=c/\Reads w B 1 A l.length (lY l)/\∀g,v.ownBlock=some g->g<B/\∃cs,lq w g 2 cs
theorem pO.below{w w':World}{B:Nat}{v:Value}{l:List Int}(h:pO w B v l)(hb:Below B w w'):pO w' B v l:=by obtain⟨A,c,h1,h2,h3,h4,h5⟩:=h;exact⟨A,c,h1,h2,h3,h4.below hb,λg hg=>⟨(h5 g hg).1,by obtain⟨h6,cs,h7⟩:=h5 g hg;exact⟨cs,h7.below hb h6⟩⟩⟩
theorem pO.more{w:World}{B B':Nat}{v:Value}{l:List Int}(h:pO w B v l)(hb:B<=B'):pO w B' v l:=by obtain⟨A,c,h1,h2,h3,h4,h5⟩:=h;exact⟨A,c,h1,h2,h3,h4.more hb,λg hg=>⟨YK (h5 g hg).1 hb,(h5 g hg).2⟩⟩
theorem pO.own{w:World}{base:Nat}{v:Value}{l:List Int}(h:w.ownsRow base 2 1 v l.length (lY l)):pO w w.heap.size v l:=by
 obtain⟨A,c,rfl⟩:=lZ h;refine⟨A,c,rfl,λe=>?_,oT h,Reads.mo h,λg hg=>⟨(h.lt g hg).2,?_⟩⟩
 ·rcases h.2 with⟨h1,_⟩ | ⟨g,cap,cur,h1,_⟩
  ·injection h1
  ·injection h1 with h1;rw[e]at h1;cases h1
 ·rcases h.2 with⟨h1,_⟩ | ⟨g',cap,cur,h1,_,h2,_⟩
  ·rw[h1]at hg;simp[Value.ownBlock]at hg
  ·rw[h1]at hg;have:g'=g:=(by simpa[Value.ownBlock]using hg);subst this;exact⟨cur,h2⟩
theorem pO.one(w:World)(n:Int):pO (w.alloc (.cells #[n] 2)) (w.heap.size+1) (.slice w.heap.size 1 1) [n]:=by
 have h:(w.alloc (.cells #[n] 2)).ownsRow w.heap.size 2 1 (.slice w.heap.size 1 1) 1 [.int .i64 n]:=
  ⟨rfl,.inr ⟨w.heap.size,1,#[.int .i64 n],rfl,X7 _,lq.new _ _ _,X7 _,by decide,rfl,rfl⟩⟩
 have:=pO.own (l:=[n]) h;rw[show(w.alloc (.cells #[n] 2)).heap.size=w.heap.size+1 by simp]at this;exact this
theorem pO.lA{w:World}{B g:Nat}{v:Value}{l:List Int}{t:TypeId}{cs:Array Value}(h:pO w B v l)(hb:lq w g t cs)(ht:t≠2)(i:Nat)(u:Value):pO (w.setCell (g,i) u) B v l:=by
 obtain⟨A,c,h1,h2,h3,h4,h5⟩:=h;have mI:∀g',v.ownBlock=some g'->g'≠g:=λg' QL=>by obtain⟨_,cs',h7⟩:=h5 g' QL;exact lq.se h7 hb (λe=>ht e.symm)
 refine⟨A,c,h1,h2,h3,⟨h4.1,λh0=>?_⟩,λg' QL=>⟨(h5 g' QL).1,?_⟩⟩
 ·obtain⟨ad,e,lN,hc⟩:=h4.2 h0;refine⟨ad,e,lN,λj x hx=>(Y8 ?_).trans (hc j x hx)⟩;refine ZS w _ u _ ?_;rw[lp];exact mI ad.block (by rw[h1,e];rfl)
 ·obtain⟨_,cs',h7⟩:=h5 g' QL;exact⟨cs',h7.lQ (mI g' QL) u⟩
theorem Ui(l:List Int)(v:Value)(w:World)(hn:l.length<=1000000)(hv:pO w w.heap.size v l): Calls prog 165 #[v] w λe w'=>KM l w w' e:=by
 obtain⟨A,c,rfl,h1,h2,h3,_⟩:=hv;rcases A with _ | ad
 ·have hc:c=0:=h1 rfl;have hl:l.length=0:=by omega
  have FW:l=[]:=aBI hl;subst FW hc;have hns:=λw=>sl_nil w;show Calls prog 165 #[.slice none 0 0] w _;clear h1 h2 h3 hl;go_enter func165,ntmps165;go_wp2_with fail;go_ret;exact⟨⟨none,0,rfl,⟨rfl,.inl ⟨rfl,rfl⟩⟩⟩,ZN _ _⟩
 ·exact GH l ad c w hn h3
theorem BG(l:List Int)(v:Value)(w:World)(hl:rM l)(hn:l.length<=1000000)(hv:pO w w.heap.size v l): Calls prog 93 #[v] w λe w'=>e= .returned (.tuple #[(lU l.sum),.bool (mG l.sum)])/\Below w.heap.size w w':=by obtain⟨A,c,rfl,h1,h2,h3,_⟩:=hv;exact aaj l A c w hl (by omega) h3
theorem qF{W:World}{g:Nat}{s:me}(hb:lq W g 63 (lj s).toArray):W.rangeAt g 0 (lj s):=λj v hv=>by rw[ZX];exact hb.get j (by simpa using hv)
structure Dx(s:me)(g:Nat)(W:World):Prop where
 lt:g<W.heap.size
 CV:W.cell? (g,18)=some (.int .u8 s.m1.k)
 c19:W.cell? (g,19)=s.m1.n
 c22:W.cell? (g,22)=some (.int .u8 s.m3.k)
 c23:W.cell? (g,23)=s.m3.n
theorem Dx.below{s:me}{g:Nat}{W W':World}(h:Dx s g W)(hb:Below W.heap.size W W'):Dx s g W':=
 ⟨YK h.lt hb.size,(hb.cell (p:=(g,18)) h.lt).trans h.CV,(hb.cell (p:=(g,19)) h.lt).trans h.c19,(hb.cell (p:=(g,22)) h.lt).trans h.c22,(hb.cell (p:=(g,23)) h.lt).trans h.c23⟩
theorem Dx.at_{s:me}{g B:Nat}{W W':World}(h:Dx s g W)(hb:Below B W W')(hB:g<B):Dx s g W':=
 ⟨YK h.lt hb.size,(hb.cell (p:=(g,18)) hB).trans h.CV,(hb.cell (p:=(g,19)) hB).trans h.c19,(hb.cell (p:=(g,22)) hB).trans h.c22,(hb.cell (p:=(g,23)) hB).trans h.c23⟩
theorem Dx.mk_{s:me}{g:Nat}{W:World}(h:lq W g 63 (lj s).toArray):Dx s g W:=⟨h.lt,h.get _ (sty_a18 s),h.get _ (sty_a19 s),h.get _ (aaf s),h.get _ (sty_a23 s)⟩
theorem pO.drew{w:World}{B:Nat}{v:Value}{l:List Int}(h:pO w B v l):pO w.drew B v l:=h.below (ZN _ _).drew
structure RT(s:me)(g:Nat)(w wx:World)(v:Value)(S:Int):Prop where
 b:Below w.heap.size w wx
 st:lq wx g 63 (lj s).toArray
 g:g=w.heap.size
 sl:∃l,pO wx wx.heap.size v l/\l.sum=S/\rM l/\l.length<=100000
theorem Gm(s:me)(l:List Int)(v:Value)(w:World)(hs:zp s)(hl:rM l)(hn:l.length<=100000)(hv:pO w w.heap.size v l){Au:Option Addr}{nu cu:Nat}(huv:s.uv= .slice Au nu cu): Calls prog 94 #[.agg (lj s).toArray,v] w λe w'=>e= .returned (.tuple #[.int .i64 (lU (MY s l.sum)),.bool (mG (MY s l.sum))])/\Below w.heap.size w w':=by
 have HS:=X6 hs;have HH0:Hid (RT s w.heap.size w (w.alloc (.cells (lj s).toArray 63)) v l.sum):=X6 ⟨bA,lq.new _ _ _,rfl,l,(hv.below bA).more (by simp),rfl,hl,hn⟩;have B9:=X6 huv;clear hs hl hn hv huv;have q4:=HH0.st.get _ (Ok s);have q5:=HH0.st.get _ (MN s);go_enter func94,ntmps94;go_upto_if 18 with(fail)
 go_cut [1] (λs1 wx=>Hid (RT s w.heap.size w wx s1 (EO s l.sum)));case first=>
  by_cases h:s.w.k=1
  ·have e1:(s.w.k == 1)=true:=ZR.2 h;have HO:=X6 (show EO s l.sum=s.w.n by unfold EO;rw[YP h]);clear h;go_wp2_with fail;go_meet;case rel=>exact X6 ⟨HH0.b.alloc (by simp) _,HH0.st.alloc _,rfl,[s.w.n],by have:=pO.one (w.alloc (.cells (lj s).toArray 63)) s.w.n;simpa using this,by rw[HO.out];simp,λx hx=>by have:=HS.w;simp at hx;omega,by simp⟩
  ·have e1:(s.w.k == 1)=false:=ZO.2 h;have HO:=X6 (show EO s l.sum=l.sum by unfold EO;rw[YO h]);clear h;go_wp2_with fail;go_meet;case rel=>exact X6 (by rw[HO.out];exact HH0.out)
 case rest=>
  have H1:=hcut;clear hcut q4 q5;obtain⟨l1,Kn⟩:=H1.sl;have zA:=X6 Kn;clear Kn;go_wp2_with fail;refine(BG l1 _ _ zA.2.2.1 (by have:=zA.2.2.2;omega) zA.1).mono ?_;rintro e w2 ⟨rfl,ph⟩;have H2:Hid (RT s w.heap.size w w2 u1 (EO s l.sum)):=X6 ⟨H1.b.trans (ph.mono H1.b.size),H1.st.below ph H1.st.lt,rfl,l1,(zA.1.below ph).more ph.size,zA.2.1,zA.2.2⟩;have XH:l1.sum=EO s l.sum:=zA.2.1;rw[XH];obtain⟨n1,Oy⟩:∃n1,n1=lU (EO s l.sum):=⟨_,rfl⟩;rw[<-Oy];have XD:=X6 Oy;clear XH Oy ph zA;have q10:=H2.st.get _ (IY s);have q11:=H2.st.get _ (Jr s);have hm:=H2.b.size;go_upto_region 4 with(fail)
  go_cut [38] (λsx wx=>∃b:Bool,sx= .bool b/\Hid (b=decide (s.mz.k=1/\s.mz.n<=n1))/\w2=wx);case first=>
   by_cases h:s.mz.k=1
   ·have e1:(s.mz.k == 1)=true:=ZR.2 h;cases hd:decide (s.mz.n<=n1)
    ·have HO:=X6 (show false=decide (s.mz.k=1/\s.mz.n<=n1)from(X9 (λx=>by have:=YS hd;omega)).symm);clear h;go_wp2_with fail;go_meet;case rel=>exact⟨false,rfl,HO,rfl⟩
    ·have HO:=X6 (show true=decide (s.mz.k=1/\s.mz.n<=n1)from(YC ⟨h,YZ hd⟩).symm);clear h;go_wp2_with fail;go_meet;case rel=>exact⟨true,rfl,HO,rfl⟩
   ·have e1:(s.mz.k == 1)=false:=ZO.2 h;have HO:=X6 (show false=decide (s.mz.k=1/\s.mz.n<=n1)from(X9 (λx=>h x.1)).symm);clear h;go_wp2_with fail;go_meet;case rel=>exact⟨false,rfl,HO,rfl⟩
  case rest=>
   obtain⟨b,rfl,HB,rfl⟩:=hcut;go_upto_if 38 with(fail);go_cut [1] (λs1 wx=>Hid (RT s w.heap.size w wx s1 (Vg s l.sum)));case first=>
    cases b
    ·have HO:=X6 (show Vg s l.sum=EO s l.sum by unfold Vg;rw[YO (by have:=YS HB.symm;rw[XD.out]at this;exact this)]);go_wp2_with fail;go_meet;case rel=>exact X6 (by rw[HO.out];exact H2.out)
    ·have HO:=X6 (show Vg s l.sum=s.mz.n by unfold Vg;rw[YP (by have:=YZ HB.symm;rw[XD.out]at this;exact this)]);go_wp2_with fail;go_meet;case rel=>exact X6 ⟨H2.b.alloc hm _,H2.st.alloc _,rfl,[s.mz.n],by have:=pO.one w2 s.mz.n;simpa using this,by rw[HO.out];simp,λx hx=>by have:=HS.mz;simp at hx;omega,by simp⟩
   case rest=>
    have H3:=hcut;clear hcut q10 q11 hm;obtain⟨l3,Tb⟩:=H3.sl;have Ru:=X6 Tb;clear Tb;go_wp2_with fail;refine(BG l3 _ _ Ru.2.2.1 (by have:=Ru.2.2.2;omega) Ru.1).mono ?_;rintro e w4 ⟨rfl,wg⟩;have H4:Hid (RT s w.heap.size w w4 u1 (Vg s l.sum)):=X6 ⟨H3.b.trans (wg.mono H3.b.size),H3.st.below wg H3.st.lt,rfl,l3,(Ru.1.below wg).more wg.size,Ru.2.1,Ru.2.2⟩;have hc3:l3.sum=Vg s l.sum:=Ru.2.1;rw[hc3];obtain⟨n3,hn3⟩:∃n3,n3=lU (Vg s l.sum):=⟨_,rfl⟩;rw[<-hn3];have wD:=X6 hn3;clear hc3 hn3 wg Ru;have q8:=H4.st.get _ (MG s);have q9:=H4.st.get _ (Ml s);have hm:=H4.b.size;go_upto_region 7 with(fail)
    go_cut [58] (λsx wx=>∃b:Bool,sx= .bool b/\Hid (b=decide (s.my.k=1/\n3<=s.my.n))/\w4=wx);case first=>
     by_cases h:s.my.k=1
     ·have e1:(s.my.k == 1)=true:=ZR.2 h;cases hd:decide (n3<=s.my.n)
      ·have HO:=X6 (show false=decide (s.my.k=1/\n3<=s.my.n)from(X9 (λx=>by have:=YS hd;omega)).symm);clear h;go_wp2_with fail;go_meet;case rel=>exact⟨false,rfl,HO,rfl⟩
      ·have HO:=X6 (show true=decide (s.my.k=1/\n3<=s.my.n)from(YC ⟨h,YZ hd⟩).symm);clear h;go_wp2_with fail;go_meet;case rel=>exact⟨true,rfl,HO,rfl⟩
     ·have e1:(s.my.k == 1)=false:=ZO.2 h;have HO:=X6 (show false=decide (s.my.k=1/\n3<=s.my.n)from(X9 (λx=>h x.1)).symm);clear h;go_wp2_with fail;go_meet;case rel=>exact⟨false,rfl,HO,rfl⟩
    case rest=>
     obtain⟨b,rfl,HB,rfl⟩:=hcut;go_upto_if 58 with(fail);go_cut [1] (λs1 wx=>Hid (RT s w.heap.size w wx s1 (o3P s l.sum)));case first=>
      cases b
      ·have HO:=X6 (show o3P s l.sum=Vg s l.sum by unfold o3P;rw[YO (by have:=YS HB.symm;rw[wD.out]at this;exact this)]);go_wp2_with fail;go_meet;case rel=>exact X6 (by rw[HO.out];exact H4.out)
      ·have HO:=X6 (show o3P s l.sum=s.my.n by unfold o3P;rw[YP (by have:=YZ HB.symm;rw[wD.out]at this;exact this)]);go_wp2_with fail;go_meet;case rel=>exact X6 ⟨H4.b.alloc hm _,H4.st.alloc _,rfl,[s.my.n],by have:=pO.one w4 s.my.n;simpa using this,by rw[HO.out];simp,λx hx=>by have:=HS.my;simp at hx;omega,by simp⟩
     case rest=>
      have H5:=hcut;clear hcut q8 q9 hm;obtain⟨l5,XE⟩:=H5.sl;have Ev:=X6 XE;clear XE;have pP:=X6 (qF H5.st);go_wp2_with (refine wpList_load_mid rfl 63 _ rfl w.heap.size 0 rfl (lj s) _ pP.out underlying63 rfl (by kernel_rfl) ?_);refine(Bz s _ HS.out).mono ?_;rintro e w6 ⟨⟨d,rfl⟩,rfl⟩;have HW6:Hid (Below w.heap.size w (wc.alloc (.cells (lj s).toArray 63))/\Dx s w.heap.size (wc.alloc (.cells (lj s).toArray 63))/\pO (wc.alloc (.cells (lj s).toArray 63)) (wc.alloc (.cells (lj s).toArray 63)).heap.size u1 l5):=X6 ⟨H5.b.alloc H5.b.size _,(Dx.mk_ H5.st).below bA,(Ev.1.below bA).more (by simp)⟩;go_wp2_with fail;obtain⟨w6,Iz⟩:∃w6,w6=wc.alloc (.cells (lj s).toArray 63):=⟨_,rfl⟩;rw[<-Iz]at HW6;rw[<-Iz];clear Iz;refine wp_region_held_drew (S:=Dx s w.heap.size) (by kernel_rfl) (HW6.2.1.below (ZN _ _).drew) (λhS=>?_);refine wpAnyH_take (i:=0) (v:=?_) rfl (by kernel_rfl) (by kernel_rfl) (by kernel_rfl) (λ_ _ _ h=>h) (Or.inl ⟨by rfl,?_⟩) hS ?_;rotate_left
      ·rintro W' ⟨J1,LO,LI,J4,Kb⟩;go_simp;rfl
      try simp only[Act.put,X8,YF,YE,YD,YA,YB]
      refine wpAnyH_take (i:=2) (v:=?_) rfl (by kernel_rfl) (by kernel_rfl) (by kernel_rfl) (λ_ _ _ h=>h) (Or.inl ⟨by rfl,?_⟩) hS ?_;rotate_left
      ·rintro W' ⟨J1,LO,LI,J4,Kb⟩;go_simp;rfl
      try simp only[Act.put,X8,YF,YE,YD,YA,YB]
      refine wpAnyH_take (i:=3) (v:=?_) rfl (by kernel_rfl) (by kernel_rfl) (by kernel_rfl) (λ_ _ _ h=>h) (Or.inl ⟨by rfl,?_⟩) hS ?_;rotate_left
      ·rintro W' ⟨J1,LO,LI,J4,Kb⟩;go_simp;rfl
      try simp only[Act.put,X8,YF,YE,YD,YA,YB]
      refine wpAnyH_take (i:=4) (v:=?_) rfl (by kernel_rfl) (by kernel_rfl) (by kernel_rfl) (λ_ _ _ h=>h) (Or.inl ⟨by rfl,?_⟩) hS ?_;rotate_left
      ·rintro W' ⟨J1,LO,LI,J4,Kb⟩;go_simp;rfl
      try simp only[Act.put,X8,YF,YE,YD,YA,YB]
      refine wpAnyH_take (i:=5) (v:=?_) rfl (by kernel_rfl) (by kernel_rfl) (by kernel_rfl) (λ_ _ _ h=>h) (Or.inl ⟨by rfl,?_⟩) hS ?_;rotate_left
      ·rintro W' ⟨J1,LO,LI,J4,Kb⟩;go_simp;rfl
      try simp only[Act.put,X8,YF,YE,YD,YA,YB]
      refine wpAnyH_take (i:=7) (v:=?_) rfl (by kernel_rfl) (by kernel_rfl) (by kernel_rfl) (λ_ _ _ h=>h) (Or.inl ⟨by rfl,?_⟩) hS ?_;rotate_left
      ·rintro W' ⟨J1,LO,LI,J4,Kb⟩;go_simp;rfl
      try simp only[Act.put,X8,YF,YE,YD,YA,YB]
      refine wpAnyH_take (i:=8) (v:=?_) rfl (by kernel_rfl) (by kernel_rfl) (by kernel_rfl) (λ_ _ _ h=>h) (Or.inl ⟨by rfl,?_⟩) hS ?_;rotate_left
      ·rintro W' ⟨J1,LO,LI,J4,Kb⟩;go_simp;rfl
      try simp only[Act.put,X8,YF,YE,YD,YA,YB]
      refine wpAnyH_take (i:=9) (v:=?_) rfl (by kernel_rfl) (by kernel_rfl) (by kernel_rfl) (λ_ _ _ h=>h) (Or.inl ⟨by rfl,?_⟩) hS ?_;rotate_left
      ·rintro W' ⟨J1,LO,LI,J4,Kb⟩;go_simp;rfl
      try simp only[Act.put,X8,YF,YE,YD,YA,YB]
      refine mV 1 (λK hK=>?_);go_simp;refine(Ui l5 _ _ (by have:=Ev.2.2.2;omega) HW6.2.2.drew).mono ?_;rintro e w7 ⟨⟨A7,c7,rfl,qS⟩,qk⟩;have wa:=X6 (HW6.1.trans ((ZN _ _).drew.trans (qk.mono HW6.1.size)));refine ky hK (hS.below qk) λhS=>?_;clear hK;refine mV 6 (λK hK=>?_);go_simp;refine(KD s.m3.k s.m3.n _).mono ?_;rintro e w8 ⟨rfl,rfl⟩;refine ky hK (hS.below bA) λhS=>?_;clear hK;refine mV 10 (λK hK=>?_);go_simp;refine(KD s.m1.k s.m1.n _).mono ?_;rintro e w8 ⟨rfl,rfl⟩;refine ky hK (hS.below bA) λhS=>?_;clear hK;refine mV 11 (λK hK=>?_);go_simp;refine ky hK (hS.below bA) λhS=>?_;clear hK;refine mV 12 (λK hK=>?_);have HO9:=X6 ((qS.alloc (.cells #[.int .u8 s.m3.k,s.m3.n] 58)).alloc (.cells #[.int .u8 s.m1.k,s.m1.n] 58));have hsz9:w6.drew.heap.size<=((w7.alloc (.cells #[.int .u8 s.m3.k,s.m3.n] 58)).alloc (.cells #[.int .u8 s.m1.k,s.m1.n] 58)).heap.size:=(by have:=qk.size;simp at this⊢;omega);refine oS (m:=3) rfl _ _ rfl CP HO9.out hsz9 rfl [.int .i64 (mS s),.int .i64 (o7 s.m3),.int .i64 (o7 s.m1)] rfl (by simp) rfl (by simp[Value.oneCell']) (by have:=Ev.2.2.2;omega) (by omega) ?_;intro A9 c9 w9 qp My ym _;have HOW9:=X6 qp;have HBL9:=X6 (My w.heap.size w (by have:=HW6.1.size;simp;omega) ((wa.alloc wa.size _).alloc (by have:=wa.size;simp;omega) _));have HG9:=X6 (show w.heap.size+1<=w6.drew.heap.size by have:=HW6.2.1.lt;simp;omega);refine ky hK (((((HW6.2.1.below (ZN _ _).drew).below qk).below bA).below bA).at_ (My (w.heap.size+1) _ HG9.out (ZN _ _)) (by omega)) λhS=>?_;clear hK;refine wpAnyH_take (i:=13) (v:=?_) rfl (by kernel_rfl) (by kernel_rfl) (by kernel_rfl) (λ_ _ _ h=>h) (Or.inl ⟨by rfl,?_⟩) hS ?_;rotate_left
      ·rintro W' ⟨J1,LO,LI,J4,Kb⟩;go_simp;rfl
      try simp only[Act.put,X8,YF,YE,YD,YA,YB]
      refine nR ?_;clear hS;have Xw:rM (l5++[mS s,o7 s.m3,o7 s.m1]):=by
       intro x hx;rcases YW.1 hx with hx | hx
       ·exact Ev.2.2.1 x hx
       ·have:=HS.b1;have:=HS.b3;have:=HS.p1;have:=HS.p3;have:=HS.m1;have:=HS.m3;simp only[Y7,ZD,DA]at hx;rcases hx with rfl | rfl | rfl
        ·unfold mS;omega
        ·unfold o7;split<;>omega
        ·unfold o7;split<;>omega
      have hsl10:pO w9 w9.heap.size (.slice A9 (l5.length+3) c9) (l5++[mS s,o7 s.m3,o7 s.m1]):=pO.own (by simpa[lY]using HOW9.out);have HX:=X6 (And.intro Xw hsl10);have HSU:Hid ((l5++[mS s,o7 s.m3,o7 s.m1]).sum=o3P s l.sum+mS s+o7 s.m3+o7 s.m1):=X6 (by rw[<-Ev.2.1,Xn];simp;omega);clear Xw hsl10 qp My ym qk qS hsz9;go_wp2_with fail;refine(BG (l5++[mS s,o7 s.m3,o7 s.m1]) _ _ HX.1 (by have:=Ev.2.2.2;simp;omega) HX.2).mono ?_;rintro e sy ⟨rfl,UD⟩;have DT:=X6 (HBL9.trans (UD.mono HBL9.size));rw[HSU.out];obtain⟨S,J3⟩:∃S,S=o3P s l.sum+mS s+o7 s.m3+o7 s.m1:=⟨_,rfl⟩;rw[<-J3];have HP:Hid (MY s l.sum=max S 0):=X6 (by rw[J3];rfl);obtain⟨n9,hn9⟩:∃n9,n9=lU S:=⟨_,rfl⟩;rw[<-hn9];have Ys:=X6 hn9;clear J3 hn9 UD;cases hd:decide (n9<0)
      ·have HF:Hid (MY s l.sum=S):=X6 (by rw[HP.out];have:=YS hd;rw[Ys.out]at this;have:=zi S;omega);go_wp2_with fail;go_ret2;exact⟨by rw[HF.out,<-Ys.out];rfl,DT.out⟩
      ·have HF:Hid (MY s l.sum=0):=X6 (by rw[HP.out];have:=YZ hd;rw[Ys.out]at this;have:=zi S;omega);go_wp2_with fail;go_ret2;exact⟨by rw[HF.out];rfl,DT.out⟩
end
section
open Go.RowKit
structure oY(Z:Obj->Prop)(B:Nat)(A A':World):Prop where
 os:A'.os=A.os
 tape:A'.tape=A.tape
 output:A'.output=A.output
 size:A.heap.size<=A'.heap.size
 block:∀(k:Nat) (o:Obj),A.heap[k]? =some o->(k<B\/o.isCells=true/\¬Z o)->A'.heap[k]? =some o
structure Round(Z:Obj->Prop)(B:Nat)(A A':World):Prop where
 size:A.heap.size<=A'.heap.size
 same:∀(k:Nat) (o:Obj),A.heap[k]? =some o->(B<=k/\o.isCells=false\/Z o)->A'.heap[k]? =some o
section
variable{Z:Obj->Prop}{B:Nat}{A A' A'':World}
theorem oY.refl(A:World):oY Z B A A:=⟨rfl,rfl,rfl,X7 _,λ_ _ h _=>h⟩
theorem oY.trans(h:oY Z B A A')(k:oY Z B A' A''):oY Z B A A'':=
 ⟨k.os.trans h.os,k.tape.trans h.tape,k.output.trans h.output,YL h.size k.size,λi o hi ho=>k.block i o (h.block i o hi ho) ho⟩
theorem oY.alloc(A:World)(o:Obj):oY Z B A (A.alloc o):=
 ⟨rfl,rfl,rfl,by simp,λk o' hk _=>(aBU A o k (aAW.1 hk).1).trans hk⟩
theorem oY.putObj{l:Nat}{o:Obj}(o':Obj)(hB:B<=l)(hl:A.heap[l]? =some o)(ho:o.isCells=false):oY Z B A (A.putObj l o'):=
 ⟨rfl,rfl,rfl,by simp,λk o'' hk hc=>by
  have:k≠l:=by
   rintro rfl;rw[hl]at hk;cases hk;rcases hc with hc | hc
   ·omega
   ·rw[ho]at hc;exact absurd hc.1 (by simp)
  exact(World.putObj_heap_other this).trans hk⟩
theorem oY.setCell{p:Addr}{o:Obj}(u:Value)(hB:B<=p.block)(hl:A.heap[p.block]? =some o)(ho:Z o):oY Z B A (A.setCell p u):=
 ⟨rfl,rfl,rfl,by simp[World.setCell],λk o'' hk hc=>by
  have:k≠p.block:=by
   rintro rfl;rw[hl]at hk;cases hk;rcases hc with hc | hc
   ·omega
   ·exact hc.2 ho
  exact(ZS A p u k this).trans hk⟩
theorem oY.below{n:Nat}{w:World}(h:oY Z B A A')(hn:n<=B)(hw:Below n w A)(hs:n<=w.heap.size):Below n w A':=
 ⟨h.os.trans hw.os,h.tape.trans hw.tape,h.output.trans hw.output,YL hw.size h.size,λk hk=>by
  have SU:k<A.heap.size:=by have:=hw.size;omega
  have:=h.block k A.heap[k] (Z5 SU) (.inl (by omega));rw[this,<-hw.block k hk,Z5 SU]⟩
theorem oY.qB{g:Nat}{t:TypeId}{cs:Array Value}(h:oY Z B A A')(hb:lq A g t cs)(hz:∀cs fr,¬Z (.cells cs t fr)):lq A' g t cs:=h.block g _ hb (.inr ⟨rfl,hz _ _⟩)
theorem oY.own{base:Nat}{e:TypeId}{size n:Nat}{v:Value}{xs:List Value}(h:oY Z B A A')(ho:A.ownsRow base e size v n xs)(hz:∀cs fr,¬Z (.cells cs e fr)):A'.ownsRow base e size v n xs:=by
 obtain⟨h1,h2⟩:=ho;refine⟨h1,?_⟩;rcases h2 with h2 | ⟨g,cap,cur,hv,hg,hh,r⟩
 ·exact .inl h2
 ·exact .inr ⟨g,cap,cur,hv,hg,h.block g _ hh (.inr ⟨rfl,hz _ _⟩),r⟩
theorem Round.refl(A:World):Round Z B A A:=⟨X7 _,λ_ _ h _=>h⟩
theorem Round.trans(h:Round Z B A A')(k:Round Z B A' A''):Round Z B A A'':=⟨YL h.size k.size,λi o hi ho=>k.same i o (h.same i o hi ho) ho⟩
theorem Round.alloc(h:Round Z B A A')(o:Obj):Round Z B A (A'.alloc o):=
 h.trans ⟨by simp,λk o' hk _=>(aBU A' o k (aAW.1 hk).1).trans hk⟩
theorem Round.drew(h:Round Z B A A'):Round Z B A A'.drew:=⟨h.size,h.same⟩
theorem Round.setCell{g i:Nat}{t:TypeId}{cs:Array Value}(h:Round Z B A A')(hb:lq A' g t cs)(hz:∀cs fr,¬Z (.cells cs t fr))(u:Value):Round Z B A (A'.setCell (g,i) u):=
 h.trans ⟨by simp[World.setCell],λk o' hk hc=>by
  have:k≠g:=by
   rintro rfl;rw[show A'.heap[k]? =_ from hb]at hk;cases hk;rcases hc with hc | hc
   ·simp[Obj.isCells]at hc
   ·exact hz _ _ hc
  exact(ZS A' ⟨g,i,none⟩ u k this).trans hk⟩
theorem Round.below{n:Nat}(h:Round Z B A A')(hb:Below n A' A'')(hn:A'.heap.size<=n):Round Z B A A'':=
 h.trans ⟨hb.size,λk o hk _=>(hb.block k (by have:=(aAW.1 hk).1;omega)).trans hk⟩
theorem Round.grown{row:Option Nat}(h:Round Z B A A')(hg:A'.grownBy A'' row)(hr:∀k o,row=some k->A'.heap[k]? =some o->o.isCells=true/\¬Z o):Round Z B A A'':=
 h.trans ⟨hg.size,λk o hk hc=>by
  refine(hg.block k (aAW.1 hk).1 (λe=>?_)).trans hk;obtain⟨h1,h2⟩:=hr k o e.symm hk;rcases hc with hc | hc
  ·rw[h1]at hc;simp at hc
  ·exact h2 hc⟩
theorem Rj{w:World}{base:Nat}{e:TypeId}{size n:Nat}{v:Value}{xs:List Value}(ho:w.ownsRow base e size v n xs)(hz:∀cs fr,¬Z (.cells cs e fr)):∀k o,v.ownBlock=some k->w.heap[k]? =some o->o.isCells=true/\¬Z o:=by
 intro k o hk Fh;rcases ho.2 with⟨rfl,_⟩ | ⟨g,cap,cur,rfl,_,hh,_⟩
 ·simp[Value.ownBlock]at hk
 ·obtain rfl:g=k:=by simpa[Value.ownBlock]using hk
  rw[hh]at Fh;cases Fh;exact⟨rfl,hz _ _⟩
end
variable{F:Fence}{n:Nat}{P:Program}
end
section
open Go.RowKit Go.Shelf
attribute [local go_sem] lp Oper.semAt_some
def M0(o:Obj):Prop:=∃cs fr,o= .cells cs 315 fr
theorem p8{t:TypeId}(h:t≠315)(cs:Array Value)(fr:Nat×Nat):¬M0 (.cells cs t fr):=by rintro⟨cs',fr',e⟩;injection e with _ e;exact h e
def Kp6(n0 bu:Nat)(W W':World):Prop:=Below n0 W W'/\W'.heap[bu]? =W.heap[bu]?
structure ItW(J:List Sp->World->Prop)(n0 bu g:Nat)(A:Option Addr)(c len:Nat)(xs:List Value)(out:List Sp)(cs:Array Value)(wr:World):Prop where
 j:J out wr
 g:lq wr g 315 cs
 b:lq wr bu 61 #[.slice A len c]
 r:Reads wr n0 1 A len xs
section
variable{J:List Sp->World->Prop}{n0 bu g:Nat}{A:Option Addr}{c len:Nat}{xs:List Value}{out out':List Sp}{cs:Array Value}{wr W':World}
theorem ItW.lA(h:ItW J n0 bu g A c len xs out cs wr)(hJ:∀pre A A',J pre A->oY M0 g A A'->J pre A')(hb:bu<g)(hn:n0<=g)(i:Nat)(v:Value):ItW J n0 bu g A c len xs out (cs.setIfInBounds i v) (wr.setCell (g,i) v):=
 ⟨hJ _ _ _ h.j (oY.setCell (Z:=M0) (p:=(g,i)) v (X7 _) h.g ⟨_,_,rfl⟩),h.g.lA i v,h.b.lQ (p:=(g,i)) (show bu≠g by omega) v,h.r.setCell (p:=(g,i)) hn v⟩
theorem ItW.yielded{B:Nat}(h:ItW J n0 bu g A c len xs out cs wr)(hj:J out' W')(hr:Round M0 B wr W')(hk:Kp6 n0 bu wr W'):ItW J n0 bu g A c len xs out' cs W':=
 ⟨hj,hr.same _ _ h.g (.inr ⟨_,_,rfl⟩),hk.2.trans h.b,h.r.below hk.1⟩
end
end
section
open Go.RowKit
variable{P:Program}{ops:Array Oper}{Q:Exit->Act->World->Prop}
end
section
open Go.RowKit Go.Shelf
attribute [local go_sem] lp Oper.semAt_some
theorem AS:El prog 122 201 (.agg #[lx,lx,lx,lx,lx]) 5 40:=⟨underlying122,by kernel_rfl,rfl,by decide⟩
structure WI(w:World)(t l:List Int)(A B:Option Addr)(c d:Nat)(pre:List Sp)(W:World):Prop where
 v:∃v,lq W (w.heap.size+1+1) 122 #[v]/\W.ownsRow w.heap.size 201 5 v (lT t l pre).1.length (mC (lT t l pre).1)
 lQ:lq W (w.heap.size+1+1+1) 4 #[.bool (lT t l pre).2]
 mu:lq W w.heap.size 61 #[.slice A l.length c]
 oC:lq W (w.heap.size+1) 23 #[.slice B t.length d]
 gap:lq W (w.heap.size+1+1+1+1) 2 #[.int .i64 (lU (adv t 32))]
 wide:lq W (w.heap.size+1+1+1+1+1) 4 #[.bool (mG (adv t 32))]
 it:lq W (w.heap.size+1+1+1+1+1+1) 61 #[.slice A l.length c]
 old:Below w.heap.size w W
theorem WI.others{w:World}{t l:List Int}{A B:Option Addr}{c d:Nat}{pre:List Sp}{W W':World}{b:Nat}(h:WI w t l A B c d pre W)(ho:oY M0 b W W')(hb:w.heap.size<=b):WI w t l A B c d pre W':=by
 obtain⟨⟨v,h1,h2⟩,h3,h4,h5,h6,h7,h8,h9⟩:=h;exact⟨⟨v,ho.qB h1 (p8 (by decide)),ho.own h2 (p8 (by decide))⟩,ho.qB h3 (p8 (by decide)),ho.qB h4 (p8 (by decide)),ho.qB h5 (p8 (by decide)),ho.qB h6 (p8 (by decide)),ho.qB h7 (p8 (by decide)),
  ho.qB h8 (p8 (by decide)),ho.below hb h9 (X7 _)⟩
theorem WI.step{w:World}{t l:List Int}{A B Av A':Option Addr}{c d cv c':Nat}{pre:List Sp}{x:Sp}{W W1 w':World}{b:Nat}{wc:Array Value}{nb:Bool}(hi:WI w t l A B c d pre W)(hb:Below W.heap.size W W1) (hv:lq W (w.heap.size+1+1) 122 #[.slice Av (lT t l pre).1.length cv]) (hw:w.heap.size<=b) (lV:W.ownsRow w.heap.size 201 5 (.slice Av (lT t l pre).1.length cv) (lT t l pre).1.length (mC (lT t l pre).1)) (nZ:w'.ownsRow w.heap.size 201 5 (.slice A' ((lT t l pre).1.length+1) c') ((lT t l pre).1.length+1) (mC (lT t l pre).1++na (L8 t l (lT t l pre).1.isEmpty x))) (hg:((W1.setCell (w.heap.size+1+1+1,0) (.bool nb)).alloc (.cells wc 201)).grownBy w' (Value.slice Av (lT t l pre).1.length cv).ownBlock) (hnb:nb=((lT t l pre).2 || vX t l (lT t l pre).1.isEmpty x)): Round M0 b W (w'.setCell (w.heap.size+1+1,0) (.slice A' ((lT t l pre).1.length+1) c'))/\Kp6 w.heap.size (w.heap.size+1+1+1+1+1+1) W (w'.setCell (w.heap.size+1+1,0) (.slice A' ((lT t l pre).1.length+1) c'))/\ WI w t l A B c d (pre++[x]) (w'.setCell (w.heap.size+1+1,0) (.slice A' ((lT t l pre).1.length+1) c')):=by
 obtain⟨_,RQ,nt,had,hgp,zJ,hit,hold⟩:=hi;have hs1:=hb.size;have XB:=lG lV hb;have nr:∀{g:Nat} {ty:TypeId} {cs:Array Value},lq W g ty cs->ty≠201->some g≠(Value.slice Av (lT t l pre).1.length cv).ownBlock:=λh mI=>(lD lV h (Ck mI)).symm;have k1:∀{g:Nat} {ty:TypeId} {cs:Array Value},lq W g ty cs->ty≠201->g≠w.heap.size+1+1+1->g≠w.heap.size+1+1->lq (w'.setCell (w.heap.size+1+1,0) (.slice A' ((lT t l pre).1.length+1) c')) g ty cs:=λh ht h3 h2=>
  ((((h.below hb h.lt).lQ (p:=(w.heap.size+1+1+1,0)) h3 _).alloc _).grown hg (nr h ht)).lQ (p:=(w.heap.size+1+1,0)) h2 _
 have hv':lq (w'.setCell (w.heap.size+1+1,0) (.slice A' ((lT t l pre).1.length+1) c')) (w.heap.size+1+1) 122 #[.slice A' ((lT t l pre).1.length+1) c']:=
  ((((hv.below hb hv.lt).lQ (p:=(w.heap.size+1+1+1,0)) (by simp) _).alloc _).grown hg (nr hv (by decide))).lA 0 _
 have Yg:lq (w'.setCell (w.heap.size+1+1,0) (.slice A' ((lT t l pre).1.length+1) c')) (w.heap.size+1+1+1) 4 #[nb]:=
  ((((RQ.below hb RQ.lt).lA 0 (.bool nb)).alloc _).grown hg (nr RQ (by decide))).lQ (p:=(w.heap.size+1+1,0)) (by simp) _
 have Yr:w.heap.size<=W1.heap.size:=by have:=hold.size;omega
 have hbel:Below w.heap.size W (w'.setCell (w.heap.size+1+1,0) (.slice A' ((lT t l pre).1.length+1) c')):=
  (((((hb.mono hold.size).setCell (p:=(w.heap.size+1+1+1,0)) (by simp;omega) _).alloc (by simpa[World.setCell]using Yr) _).grown hg (by simpa[World.setCell]using aBN Yr) (λk hk=>(lV.lt k hk.symm.symm).1)).setCell (p:=(w.heap.size+1+1,0)) (by simp;omega) _)
 refine⟨?_,⟨hbel,?_⟩,?_⟩
 ·have r1:Round M0 b W (W1.setCell (w.heap.size+1+1+1,0) (.bool nb)):=((Round.refl W).below hb (X7 _)).setCell (RQ.below hb RQ.lt) (p8 (by decide)) _;have Ya:=XB.kept (w':=(W1.setCell (w.heap.size+1+1+1,0) (.bool nb)).alloc (.cells wc 201)) (row:=some (w.heap.size+1+1+1))
   ⟨rfl,rfl,rfl,by simp[World.setCell],λk hk mI=>(aBU _ _ k (by simpa[World.setCell]using hk)).trans (ZS _ _ _ _ (λe=>mI (by rw[e])))⟩ (.inr (nr RQ (by decide)).symm)
  refine((r1.alloc _).grown hg (Rj Ya (p8 (by decide)))).setCell (cs:= #[.slice Av (lT t l pre).1.length cv]) (t:=122) ?_ (p8 (by decide)) _;exact(((hv.below hb hv.lt).lQ (p:=(w.heap.size+1+1+1,0)) (by simp) _).alloc _).grown hg (nr hv (by decide))
 ·exact(k1 hit (by decide) (by omega) (by omega)).trans hit.symm
 ·refine⟨⟨_,hv',?_⟩,?_,k1 nt (by decide) (by omega) (by omega),k1 had (by decide) (by omega) (by omega),k1 hgp (by decide) (by omega) (by omega),k1 zJ (by decide) (by omega) (by omega),k1 hit (by decide) (by omega) (by omega),hold.trans hbel⟩
  ·rw[qY];simp only[r6,YM,aBC,ui];refine nZ.kept (row:=some (w.heap.size+1+1)) ⟨rfl,rfl,rfl,by simp[World.setCell],λk _ mI=>ZS _ _ _ _ (λe=>mI (by rw[e]))⟩ (.inr ?_);exact lD nZ ((((hv.below hb hv.lt).lQ (p:=(w.heap.size+1+1+1,0)) (by simp) _).alloc _).grown hg (nr hv (by decide))) (by decide)
  ·rw[qY];simp only[r6];rw[<-hnb];exact Yg
theorem KL{l:List Int}{s:Sp}(h:s.fr<=s.up)(hl:s.up<=l.length):(part l s).length=s.up-s.fr:=by simp[part];omega
theorem Vh{l:List Int}{s:Sp}(h:xh l):xh (part l s):=λx hx=>h x (List.mem_of_mem_drop (aA3 hx))
theorem NJ{l:List Int}{s:Sp}{W:World}{n0 B:Nat}{ad:Addr}(h:Reads W n0 1 (some ad) l.length (uP l))(hB:n0<=B)(hf:s.fr<=s.up)(hl:s.up<=l.length):Reads W B 1 (some (ad.add s.fr)) (part l s).length (uP (part l s)):=by
 refine⟨by simp[uP],λhn=>?_⟩;rw[KL hf hl]at hn;obtain⟨Rv,e,hb,hc⟩:=h.2 (by omega);injection e with e
 subst e;refine⟨_,rfl,by rw[lp];omega,λj u hu=>?_⟩;rw[mJ];refine hc _ u ?_;simp only[part,uP,List.map_take,List.map_drop,aBL,List.getElem?_drop]at hu⊢
 split at hu
 ·exact hu
 ·cases hu
end
section
open Go.RowKit Go.Shelf
attribute [local go_sem] lp Oper.semAt_some
end
section
open Go.RowKit
attribute [local go_sem] lp
end
section
open Go.RowKit
attribute [local go_sem] lp
structure EI(w:World)(l:List Wd)(k:Nat)(rl:List Int)(A:Option Addr)(c:Nat)(W:World):Prop where
 row:lq W (w.heap.size+1+1) 23 #[.slice A rl.length c]
 vK:lq W w.heap.size 2 #[.int .i64 (oM l k).vK]
 lQ:lq W (w.heap.size+1) 4 #[.bool (oM l k).lQ]
 own:W.ownsRow w.heap.size 2 1 (.slice A rl.length c) rl.length (lY rl)
 b64:rM rl
 len:rl.length<=2*k
 sum:rl.sum=(oM l k).row
 ne:(Value.slice A rl.length c).ownBlock≠some w.heap.size
 old:Below w.heap.size w W
theorem V7{W:World}{b n c:Nat}{A:Option Addr}{xs:List Value}{g:Nat}{t:TypeId}{cs:Array Value}(h:W.ownsRow b 2 1 (.slice A n c) n xs)(hg:lq W g t cs)(ht:2≠t):some g≠(Value.slice A n c).ownBlock:=(lD h hg ht).symm
theorem EI.put{w:World}{l:List Wd}{k c c' m:Nat}{rl news:List Int}{A A':Option Addr}{W w':World}{gr:Int}{fa:Bool} (hrow:lq W (w.heap.size+1+1) 23 #[.slice A rl.length c]) (hgr:lq W w.heap.size 2 #[gr]) (hfa:lq W (w.heap.size+1) 4 #[fa]) (lV:W.ownsRow w.heap.size 2 1 (.slice A rl.length c) rl.length (lY rl)) (mI:(Value.slice A rl.length c).ownBlock≠some w.heap.size) (hw:Below w.heap.size w W) (nZ:w'.ownsRow w.heap.size 2 1 (.slice A' (rl.length+m) c') (rl.length+m) (lY rl++lY news)) (hm:news.length=m) (hB:∀B w0,B<=w.heap.size->Below B w0 W->Below B w0 w') (hg:W.grownBy w' (Value.slice A rl.length c).ownBlock) (qM:(Value.slice A' (rl.length+m) c').ownBlock=(Value.slice A rl.length c).ownBlock\/W.heap.size<=((Value.slice A' (rl.length+m) c').ownBlock).getD W.heap.size) (hE:(oM l (k+1)).vK=gr/\(oM l (k+1)).lQ=fa/\(oM l (k+1)).row=(rl++news).sum) (h1:rM rl) (h2:rM news) (hl:(rl++news).length<=2*(k+1)): EI w l (k+1) (rl++news) A' c' (w'.setCell (w.heap.size+1+1,0) (.slice A' (rl.length+m) c')):=by
 subst hm;have lN:=hgr.lt;have r1:=hrow.grown hg (V7 lV hrow (by decide));have zv:(rl++news).length=rl.length+news.length:=YM;have wQ:lY (rl++news)=lY rl++lY news:=by simp[lY]
 refine⟨?_,?_,?_,?_,?_,hl,hE.2.2.symm,?_,(hB _ _ (X7 _) hw).setCell (p:=(w.heap.size+1+1,0)) (by simp;omega) _⟩
 ·rw[zv];exact r1.lA 0 _
 ·rw[hE.1];exact(hgr.grown hg (λe=>mI e.symm)).lQ (p:=(w.heap.size+1+1,0)) (by simp;omega) _
 ·rw[hE.2.1];exact(hfa.grown hg (V7 lV hfa (by decide))).lQ (p:=(w.heap.size+1+1,0)) (by simp) _
 ·rw[zv,wQ];exact nZ.kept (row:=some (w.heap.size+1+1)) ⟨rfl,rfl,rfl,by simp[World.setCell],λk _ mI=>ZS _ _ _ _ (λe=>mI (by rw[e]))⟩ (.inr (lD nZ r1 (by decide)))
 ·intro v hv;rcases YW.1 hv with hv | hv
  ·exact h1 v hv
  ·exact h2 v hv
 ·rw[zv];intro e;rcases qM with h | h
  ·exact mI (h.symm.trans e)
  ·rw[e]at h;simp at h;omega
end
end Go.Proofs.YtjhingednpjogaaGreat
