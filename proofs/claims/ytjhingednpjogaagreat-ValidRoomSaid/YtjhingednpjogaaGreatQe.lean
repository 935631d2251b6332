/- Lemmas for ValidRoom; laid together by a program. -/
import Derived.Test.YtjhingednpjogaaGreatQc
import Derived.Test.YtjhingednpjogaaGreatRsr
import Derived.Test.YtjhingednpjogaaGreatQp
set_option linter.all false
set_option maxRecDepth 100000
set_option maxHeartbeats 4000000
open Go.RowKit
namespace Go.Proofs.YtjhingednpjogaaGreat
open Go.Proofs.Tryz
section
attribute [local go_sem] lp
theorem AH{w:World}{g:Nat}{t:TypeId}{cs:List Value}(h:lq w g t cs.toArray):w.rangeAt g 0 cs:=by intro j v hv;rw[ZX];exact h.get j (by simpa using hv)
theorem M9(s:me)(v:Int)(w:World)(hs:zp s): Calls prog 75 #[.agg (lj s).toArray,.int .i64 v] w λe w'=>(∃x,e= .returned (.int .i64 x)/\0<=x)/\Below w.heap.size w w':=by
 have y4:(lj s)[4]'(by rw[lL];omega)= .int .u8 s.w.k:=rfl;have y5:(lj s)[5]'(by rw[lL];omega)= .int .i64 s.w.n:=rfl;have y8:(lj s)[8]'(by rw[lL];omega)= .int .u8 s.my.k:=rfl;have y9:(lj s)[9]'(by rw[lL];omega)= .int .i64 s.my.n:=rfl;have y10:(lj s)[10]'(by rw[lL];omega)= .int .u8 s.mz.k:=rfl;have y11:(lj s)[11]'(by rw[lL];omega)= .int .i64 s.mz.n:=rfl;have z:=qD s;have HF:=X6 (λW=>vu s W hs);clear hs;go_enter func75,ntmps75;go_upto_if 10 with(fail)
 go_cut [1] (λq wx=>∃a:Int,q= .int .i64 a/\Hid (wx=w.alloc (.cells (lj s).toArray 63)));case first=>
  cases e1:(s.w.k == 1)
  all_goals go_wp2_with fail
  all_goals go_meet
  all_goals exact⟨_,rfl,X6 rfl⟩
 case rest=>
 obtain⟨a0,rfl,hw⟩:=hcut;obtain rfl:=hw.out;clear hw;go_upto_if 17 with(fail);go_cut [1] (λq wx=>∃a:Int,q= .int .i64 a/\Hid (wx=w.alloc (.cells (lj s).toArray 63)));case first=>
  cases e1:(s.mz.k == 1)
  all_goals go_wp2_with fail
  all_goals go_meet
  all_goals exact⟨_,rfl,X6 rfl⟩
 case rest=>
 obtain⟨a1,rfl,hw⟩:=hcut;obtain rfl:=hw.out;clear hw;go_upto_if 26 with(fail);go_cut [1] (λq wx=>∃a:Int,q= .int .i64 a/\Hid (wx=w.alloc (.cells (lj s).toArray 63)));case first=>
  cases e1:(s.my.k == 1)
  all_goals go_wp2_with fail
  all_goals go_meet
  all_goals exact⟨_,rfl,X6 rfl⟩
 case rest=>
 obtain⟨a2,rfl,hw⟩:=hcut;obtain rfl:=hw.out;clear hw;have mA:Hid (lq (w.alloc (.cells (lj s).toArray 63)) w.heap.size 63 (lj s).toArray/\Below w.heap.size w (w.alloc (.cells (lj s).toArray 63))):=X6 ⟨lq.new _ _ _,bA⟩;generalize w.alloc _=w1 at mA⊢;have pP:Hid (w1.rangeAt w.heap.size 0 (lj s)):=X6 (AH mA.1);go_upto_region 8 with(first | (refine wpList_load_mid rfl 63 _ rfl w.heap.size 0 rfl (lj s) _ pP.out underlying63 rfl (by kernel_rfl) ?_) | (go_at_call 82;refine(HF.out _).mono ?_;rintro e w2 ⟨⟨dv,rfl⟩,mr⟩;have nx:=X6 (And.intro (mA.1.below mr mA.1.lt) (mA.2.trans (mr.mono mA.2.size)));clear mr));have wZ:Hid (∀W,lq W w.heap.size 63 (lj s).toArray->W.cell? (w.heap.size,18)=some (.int .u8 s.m1.k)/\W.cell? (w.heap.size,19)=s.m1.n/\W.cell? (w.heap.size,22)=some (.int .u8 s.m3.k)/\W.cell? (w.heap.size,23)=s.m3.n):=X6 (λW h=>⟨h.get 18 rfl,h.get 19 rfl,h.get 22 rfl,h.get 23 rfl⟩);have HBD:Hid (lq w2.drew w.heap.size 63 (lj s).toArray/\Below w.heap.size w w2.drew):=X6 ⟨nx.1,nx.2.drew⟩;clear y4 y5 y8 y9 y10 y11 pP;refine wp_region_held_drew (S:=λW=>W.cell? (w.heap.size,18)=some (.int .u8 s.m1.k)/\W.cell? (w.heap.size,19)=s.m1.n/\W.cell? (w.heap.size,22)=some (.int .u8 s.m3.k)/\W.cell? (w.heap.size,23)=s.m3.n) (by kernel_rfl) (wZ.out _ HBD.1) (λhS=>?_);refine GZ 0 ?_;iterate 6
  refine OE (v:=?_) ?_ hS ?_;rotate_left
  ·intro W' lr;go_simp;rfl
  try simp only[Act.put,X8,YF,YE,YD,YA,YB]
 refine nk [8,9,10] ?_;iterate 3
  refine tk hS (h:=?_)
 refine np ?_;refine mV 6 (λK hK=>?_);go_simp;refine(GU s.m3.k s.m3.n _).mono ?_;rintro e w3 ⟨rfl,hw⟩;have Hw3:=X6 (And.intro (hw▸HBD.1.alloc _) (hw▸HBD.2.alloc HBD.2.size _):lq w3 w.heap.size 63 (lj s).toArray/\Below w.heap.size w w3);clear hw;refine ky hK (wZ.out _ Hw3.1) λhS=>?_;clear hK;refine nk [7] ?_;refine tk hS (h:=?_);refine np ?_;refine mV 11 (λK hK=>?_);go_simp;refine(GU s.m1.k s.m1.n _).mono ?_;rintro e w4 ⟨rfl,hw⟩;have Hw4:=X6 (And.intro (hw▸Hw3.1.alloc _) (hw▸Hw3.2.alloc Hw3.2.size _):lq w4 w.heap.size 63 (lj s).toArray/\Below w.heap.size w w4);clear hw;refine ky hK (wZ.out _ Hw4.1) λhS=>?_;clear hK;refine GZ 12 ?_;iterate 3
  refine OE (v:=?_) ?_ hS ?_;rotate_left
  ·intro W' lr;go_simp;rfl
  try simp only[Act.put,X8,YF,YE,YD,YA,YB]
 refine nR ?_;clear hS;go_wp2_with fail;go_ret;exact⟨⟨_,rfl,by omega⟩,Hw4.2⟩
end
section
attribute [local go_sem] lp
theorem Ol(a:Int)(w:World):Calls prog 140 #[a,.int .i64 10000] w λe w'=>(∃x,e= .returned (.int .i64 x))/\w=w':=by
 cases e1:decide (a.tmod 10000<0)
 all_goals
  go_enter func140,ntmps140;go_wp2_with fail;go_ret;exact⟨⟨_,rfl⟩,rfl⟩
theorem rj(k n c:Int)(w:World):Calls prog 84 #[.agg #[.int .u8 k,n],c] w λe w'=>(∃x b,e= .returned (.tuple #[.int .i64 x,.bool b]))/\Below w.heap.size w w':=by
 have HB:Hid (∀o,Below w.heap.size w (w.alloc o)):=X6 (λo=>bA);cases e1:(k == 1)
 ·cases e2:(k == 2)
  ·go_enter func84,ntmps84;go_wp2_with fail;go_ret2;exact⟨⟨_,_,rfl⟩,HB.out _⟩
  ·go_enter func84,ntmps84;go_wp2_with (go_at_call 140;refine(Ol _ _).mono ?_;rintro e w2 ⟨⟨x,rfl⟩,rfl⟩);go_ret2;exact⟨⟨_,_,rfl⟩,HB.out _⟩
 ·have e2:(k == 2)=false:=by have:k=1:=(by simpa using e1);subst this;rfl
  go_enter func84,ntmps84;go_wp2_with fail;go_ret2;exact⟨⟨_,_,rfl⟩,HB.out _⟩
theorem rO(s:me)(w:World):Calls prog 82 #[.agg (lj s).toArray] w λe w'=>(∃x y,e= .returned (.tuple #[.int .i64 x,.int .i64 y]))/\Below w.heap.size w w':=by have y24:(lj s)[24]'(by rw[lL];omega)= .int .i64 s.b0:=rfl;have y25:(lj s)[25]'(by rw[lL];omega)= .int .i64 s.b1:=rfl;have y26:(lj s)[26]'(by rw[lL];omega)= .int .i64 s.b2:=rfl;have y27:(lj s)[27]'(by rw[lL];omega)= .int .i64 s.b3:=rfl;have y28:(lj s)[28]'(by rw[lL];omega)= .int .i64 s.p0:=rfl;have y29:(lj s)[29]'(by rw[lL];omega)= .int .i64 s.p1:=rfl;have y30:(lj s)[30]'(by rw[lL];omega)= .int .i64 s.p2:=rfl;have y31:(lj s)[31]'(by rw[lL];omega)= .int .i64 s.p3:=rfl;have z:=qD s;have HB:Hid (Below w.heap.size w (w.alloc (.cells (lj s).toArray 63))):=X6 bA;go_enter func82,ntmps82;go_wp2_with fail;go_quiet (fail);go_wp2_with fail;go_ret2;exact⟨⟨_,_,rfl⟩,oV HB.out _⟩
theorem Ha(a:Int)(w:World):Calls prog 139 #[a] w λe w'=>(∃x,e= .returned (.int .i64 x))/\w=w':=by
 cases e1:decide (a<0)
 ·go_enter func139,ntmps139;go_wp2_with fail;go_ret;exact⟨⟨_,rfl⟩,rfl⟩
 ·cases e2:(a.tmod 2 == 0)
  all_goals have e3:(a.tmod 2 != 0)= !(a.tmod 2 == 0):=rfl
  all_goals rw[e2]at e3
  all_goals
   go_enter func139,ntmps139;go_wp2_with fail;go_ret;exact⟨⟨_,rfl⟩,rfl⟩
structure JU where
 wd:Int
 ab:Int
 be:Int
 uw:Int
 ul:Int
 ur:Int
 hi:Int
def nH(p:JU):List Value:=[.int .i64 p.wd,.int .i64 p.ab,.int .i64 p.be,.int .i64 p.uw,.int .i64 p.ul,.int .i64 p.ur,.int .i64 p.hi]
def oI(l:List JU):List Value:=l.flatMap nH
theorem Fk(l:List JU)(x:JU):oI (l++[x])=oI l++nH x:=by simp[oI]
theorem Kc(l:List JU):∀(k i:Nat) (hk:k<l.length),i<7->(oI l)[k*7+i]? =(nH l[k])[i]?:=by
 induction l with
 | nil=>intro k i hk;simp at hk
 | cons a t ih=>
  intro k i hk hi;have hc:oI (a::t)=nH a++oI t:=by simp[oI]
  have hl:(nH a).length=7:=rfl;rw[hc];rcases k with _ | k
  ·rw[YN (by omega)];simp
  ·rw[YQ (by omega),show(k+1)*7+i-(nH a).length=k*7+i by omega,ih k i (by simpa using hk) hi];simp
theorem el_ptQ:El prog 224 227 (.agg (nH ⟨0,0,0,0,0,0,0⟩).toArray) 7 56:=⟨underlying224,by kernel_rfl,rfl,by decide⟩
structure Ft where
 w:Int
 left:Int
 right:Int
def sE(u:Ft):List Value:=[.int .i64 u.w,.int .i64 u.left,.int .i64 u.right]
def nC(l:List Ft):List Value:=l.flatMap sE
theorem FB(l:List Ft)(x:Ft):nC (l++[x])=nC l++sE x:=by simp[nC]
theorem Kr(l:List Ft):∀(k i:Nat) (hk:k<l.length),i<3->(nC l)[k*3+i]? =(sE l[k])[i]?:=by
 induction l with
 | nil=>intro k i hk;simp at hk
 | cons a t ih=>
  intro k i hk hi;have hc:nC (a::t)=sE a++nC t:=by simp[nC]
  have hl:(sE a).length=3:=rfl;rw[hc];rcases k with _ | k
  ·rw[YN (by omega)];simp
  ·rw[YQ (by omega),show(k+1)*3+i-(sE a).length=k*3+i by omega,ih k i (by simpa using hk) hi];simp
theorem sV(ad:Addr)(n j:Nat)(hj:0<j):(⟨ad.block,(ad.add n).off+j,none⟩:Addr)=(ad.add n).add j:=by rw[show(ad.add n).add j=⟨(ad.add n).block,(ad.add n).off+j,none⟩ by unfold Addr.add;rw[YO (by omega)],lp]
theorem Reads.uq{w:World}{B n k:Nat}{A:Option Addr}{l:List Ft}(h:Reads w B 3 A n (nC l))(hn:n=l.length)(hk:k<l.length): ∃ad:Addr,A=some ad/\ad.block<B/\w.cell? (ad.add (k*3))=some (.int .i64 l[k].w)/\w.cell? (ad.block,(ad.add (k*3)).off+1)=some (.int .i64 l[k].left)/\w.cell? (ad.block,(ad.add (k*3)).off+2)=some (.int .i64 l[k].right):=by
 obtain⟨ad,e,hb,hc⟩:=h.2 (by omega);have hg:∀i,i<3->∀u,(sE l[k])[i]? =some u->w.cell? (ad.add (k*3+i))=some u:=λi hi u hu=>hc _ u (by rw[Kr l k i hk hi];exact hu);refine⟨ad,e,hb,hg 0 (by omega) _ rfl,?_,?_⟩
 ·rw[sV _ _ _ (by omega),mJ];exact hg 1 (by omega) _ rfl
 ·rw[sV _ _ _ (by omega),mJ];exact hg 2 (by omega) _ rfl
theorem Reads.pt{w:World}{B n k:Nat}{A:Option Addr}{l:List JU}(h:Reads w B 7 A n (oI l))(hn:n=l.length)(hk:k<l.length): ∃ad:Addr,A=some ad/\ad.block<B/\∀j u,(nH l[k])[j]? =some u->w.cell? ((ad.add (k*7)).add j)=some u:=by obtain⟨ad,e,hb,hc⟩:=h.2 (by omega);refine⟨ad,e,hb,λj u hu=>?_⟩;have hj:j<7:=(YT.1 hu).1;rw[mJ];exact hc _ u (by rw[Kc l k j hk hj];exact hu)
theorem Reads.sq{w:World}{B n k:Nat}{A:Option Addr}{l:List me}(h:Reads w B 43 A n (nh l))(hn:n=l.length)(hk:k<l.length): ∃ad:Addr,A=some ad/\ad.block<B/\∀j u,(lj l[k])[j]? =some u->w.cell? ((ad.add (k*43)).add j)=some u:=by
 obtain⟨ad,e,hb,hc⟩:=h.2 (by omega);refine⟨ad,e,hb,λj u hu=>?_⟩;have hj:j<43:=by have:=(YT.1 hu).1;rw[lL]at this;exact this
 rw[mJ];exact hc _ u (by rw[sC l k j hk hj];exact hu)
structure S4(w:World)(v:Value)(ps:List JU)(gx:Nat)(p:JU)(W:World):Prop where
 o:W.ownsRow w.heap.size 227 7 v ps.length (oI ps)
 x:lq W gx 227 (nH p).toArray
 lt:∀g,v.ownBlock=some g->g<gx
 ge:w.heap.size<=gx
 b:Below w.heap.size w W
section
variable{w W W':World}{v:Value}{ps:List JU}{gx:Nat}{p:JU}
theorem S4.lR(h:S4 w v ps gx p W)(hb:Below W.heap.size W W'):S4 w v ps gx p W':=
 ⟨lG h.o hb,h.x.below hb h.x.lt,h.lt,h.ge,h.b.trans (hb.mono h.b.size)⟩
theorem S4.lA(h:S4 w v ps gx p W)(j:Nat)(u:Value)(p':JU)(hp:(nH p).toArray.setIfInBounds j u=(nH p').toArray):S4 w v ps gx p' (W.setCell (gx,j) u):=
 ⟨ZP h.o (λe=>by have:=h.lt gx e;omega) u,hp▸h.x.lA j u,h.lt,h.ge,h.b.setCell (p:=(gx,j)) h.ge u⟩
end
theorem Zn{w wc w6:World}{ps:List JU}{k c6:Nat}{v:Value}{A6:Option Addr}{p:JU}(hk:ps.length=k)(ho:w6.ownsRow w.heap.size 227 7 (.slice A6 (ps.length+1) c6) (ps.length+1) (oI ps++nH p))(hv:wc.ownsRow w.heap.size 227 7 v ps.length (oI ps))(hb:Below w.heap.size w wc)(hg:wc.grownBy w6 v.ownBlock): (ps++[p]).length=k+1/\w6.ownsRow w.heap.size 227 7 (.slice A6 (ps.length+1) c6) (ps++[p]).length (oI (ps++[p]))/\Below w.heap.size w w6:=
 ⟨by rw[YM,hk];rfl,by rw[Fk,YM];exact ho,hb.grown hg hb.size (λg e=>(hv.lt g e).1)⟩
section
variable(sL:List me)(Nj:List Ft)(yu:List Int)(As Au Ah:Option Addr)(cs cu ch:Nat)(w:World)
theorem Nf(c:Int)(hn:sL.length<=65536)(hs:Reads w w.heap.size 43 As sL.length (nh sL))(hu:Reads w w.heap.size 3 Au Nj.length (nC Nj))(hh:Reads w w.heap.size 1 Ah yu.length (lY yu)): Calls prog 138 #[.int .i64 c,.slice As sL.length cs,.slice Au Nj.length cu,.slice Ah yu.length ch] w λe w'=>(∃A' c' ps,e= .returned (.slice A' ps.length c')/\ps.length=sL.length/\w'.ownsRow w.heap.size 227 7 (.slice A' ps.length c') ps.length (oI ps))/\Below w.heap.size w w':=by
 have HS:=X6 hs;have HU:=X6 hu;have HH:=X6 hh;have HN:=X6 hn;clear hs hu hh;go_enter func138,ntmps138;go_wp2_with fail;go_loopw [9,10] (λv iv wr=>∃(k:Nat) (ps:List JU),k<=sL.length/\iv= .int .i64 (k:Int)/\Hid (ps.length=k/\wr.ownsRow w.heap.size 227 7 v ps.length (oI ps)/\Below w.heap.size w wr)) (λ_ iv _=>sL.length-(intOf iv).toNat);case atStart=>exact⟨0,[],by omega,rfl,X6 ⟨rfl,YV _ _ _ _,ZN _ _⟩⟩
 case round=>
  obtain⟨k,ps,hk,rfl,H⟩:=hrel;obtain⟨A',c',hv⟩:=lZ H.2.1;subst hv;have C2:IntKind.i64.wrap ((k:Int)+1)=(k:Int)+1:=YG _ ⟨by omega,by have:=HN.out;omega⟩;by_cases lN:k<sL.length;rotate_left
  ·have d0:decide ((k:Int)<(sL.length:Int))=false:=X9 (by omega);have pJ:decide (k<sL.length)=false:=X9 lN;have HL:Hid (k=sL.length):=X6 (by omega);go_wp2_with fail;go_ret;exact⟨⟨A',c',ps,rfl,by rw[H.1,HL.out],H.2.1⟩,H.2.2⟩
  have d0:decide ((k:Int)<(sL.length:Int))=true:=YC (by omega);have pJ:decide (k<sL.length)=true:=YC lN;have Fe:(k:Int)<(sL.length:Int):=by omega
  go_upto_if 23 with(fail);obtain⟨gx,DR⟩:∃g,g=wr.heap.size:=⟨_,rfl⟩;have HX:Hid (S4 w (.slice A' ps.length c') ps gx ⟨0,0,0,0,0,0,0⟩ (wr.alloc (.cells #[lx,lx,lx,lx,lx,lx,lx] 227))):=X6 ⟨H.2.1.alloc _,lq.at_ _ _ _ DR,λg e=>by rw[DR];exact(H.2.1.lt g e).2,by rw[DR];exact H.2.2.size,H.2.2.alloc H.2.2.size _⟩;have HK:=X6 H.1;rw[<-DR];clear DR H;generalize World.alloc wr _=wx at HX⊢;go_cut [] (λW=>∃p,Hid (S4 w (.slice A' ps.length c') ps gx p W));case first=>
   by_cases hu:k<Nj.length
   ·have g0:decide ((k:Int)<(Nj.length:Int))=true:=YC (by omega);have J9:decide (k<Nj.length)=true:=YC hu;have hui:(k:Int)<(Nj.length:Int):=(by omega);obtain⟨ad,rfl,hb,x0,x1,x2⟩:=(HU.below HX.b).uq rfl hu;have mr:ad.block<wx.heap.size:=YK hb HX.b.size;have mI:ad.block≠gx:=(by have:=HX.ge;omega);have xl:=HX.x.lt;have xf:=HX.x.frozen;have o3:=HX.x.get 3 rfl;have o4:=HX.x.get 4 rfl;have o5:=HX.x.get 5 rfl;obtain⟨U,hU⟩:∃U,U=Nj[k]:=⟨_,rfl⟩;rw[<-hU]at x0 x1 x2;clear hU;have HY:=X6 (((HX.lA 3 U.w ⟨0,0,0,U.w,0,0,0⟩ rfl).lA 4 U.left ⟨0,0,0,U.w,U.left,0,0⟩ rfl).lA 5 U.right ⟨0,0,0,U.w,U.left,U.right,0⟩ rfl);go_wp2_with fail;go_meet;exact⟨_,HY⟩
   ·have g0:decide ((k:Int)<(Nj.length:Int))=false:=X9 (by omega);have J9:decide (k<Nj.length)=false:=X9 hu;go_wp2_with fail;go_meet;exact⟨_,HX⟩
  case rest=>
  clear HX;obtain⟨p,HX⟩:=hcut;go_upto_if 32 with(fail)
  go_cut [] (λW=>∃p,Hid (S4 w (.slice A' ps.length c') ps gx p W));case first=>
   by_cases hu:k<yu.length
   ·have g0:decide ((k:Int)<(yu.length:Int))=true:=YC (by omega);have J9:decide (k<yu.length)=true:=YC hu;have hui:(k:Int)<(yu.length:Int):=(by omega);obtain⟨ad,u,rfl,hb,hx,hc⟩:=(HH.below HX.b).at_ hu;have mr:ad.block<wc.heap.size:=YK hb HX.b.size;have hue:u= .int .i64 yu[k]:=(by simpa[lY,hu]using hx.symm);subst hue;obtain⟨h,hh⟩:∃U,U=yu[k]:=⟨_,rfl⟩;rw[<-hh]at hc;clear hx hh;have xl:=HX.x.lt;have xf:=HX.x.frozen;obtain⟨p0,p1,p2,p3,p4,p5,p6⟩:=p;have HY:=X6 (HX.lA 6 h ⟨p0,p1,p2,p3,p4,p5,h⟩ rfl);have o6:=HX.x.get 6 rfl;go_wp2_with fail;go_meet;exact⟨_,HY⟩
   ·have g0:decide ((k:Int)<(yu.length:Int))=false:=X9 (by omega);have J9:decide (k<yu.length)=false:=X9 hu;go_wp2_with fail;go_meet;exact⟨_,HX⟩
  case rest=>
  clear HX;obtain⟨p,HX⟩:=hcut;obtain⟨ad,rfl,qu,hld⟩:=HS.sq rfl lN;have E5:=X6 qu;obtain⟨s,hs⟩:∃s,s=sL[k]:=⟨_,rfl⟩;rw[<-hs]at hld;have xS:Hid (∀W,Below w.heap.size w W->∀j u,(lj s)[j]? =some u->W.cell? ((ad.add (k*43)).add j)=some u):=X6 (λW hb j u hu=>(hb.cell (p:=(ad.add (k*43)).add j) (by rw[lp,lp];exact qu)).trans (hld j u hu));clear qu hs hld;go_upto_region 11 with(first | refine nK rfl 63 (.tmp 41) rfl (ad.add (k*43)) rfl (lj s) _ (xS.out _ HX.b) underlying63 rfl (by kernel_rfl) ?_ | (go_at_call 82;refine(rO _ _).mono ?_;rintro e w2 ⟨⟨fx,fy,rfl⟩,mr⟩;have tX:=X6 (HX.lR mr);clear mr))
  clear HX;go_cut [] (λW=>∃p,Hid (S4 w (.slice A' ps.length c') ps gx p W));case first=>obtain⟨p0,p1,p2,p3,p4,p5,p6⟩:=p;have xl:=tX.x.lt;have xf:=tX.x.frozen;have o0:=tX.x.get 0 rfl;have o3:=tX.x.get 3 (v:= .int .i64 p3) rfl;go_wp2_with fail;go_meet;exact⟨_,X6 (tX.lA 0 _ ⟨_,p1,p2,p3,p4,p5,p6⟩ rfl)⟩
  case rest=>
  clear tX;obtain⟨p,HX⟩:=hcut;go_upto_region 12 with(fail)
  go_cut [] (λW=>∃p,Hid (S4 w (.slice A' ps.length c') ps gx p W));case first=>obtain⟨k0,k1⟩:wc.cell? (ad.block,(ad.add (k*43)).off+16)=some (.int .u8 s.m0.k)/\wc.cell? (ad.block,(ad.add (k*43)).off+16+1)=some (.int .i64 s.m0.n):=⟨by rw[sV _ _ _ (by omega)];exact xS.out _ HX.b 16 _ rfl,by rw[show(⟨ad.block,(ad.add (k*43)).off+16+1,none⟩:Addr)=⟨ad.block,(ad.add (k*43)).off+17,none⟩from rfl,sV _ _ _ (by omega)];exact xS.out _ HX.b 17 _ rfl⟩;have mr:ad.block<wc.heap.size:=YK E5.out HX.b.size;go_wp2_with (go_at_call 84;refine(rj _ _ _ _).mono ?_;rintro e w3 ⟨⟨rx,rb,rfl⟩,pn⟩;have zF:=X6 (HX.lR pn);clear pn HX;have xl:=zF.x.lt;have xf:=zF.x.frozen;have o0:=zF.x.get 1 rfl);go_meet;obtain⟨p0,p1,p2,p3,p4,p5,p6⟩:=p;exact⟨_,X6 (zF.lA 1 _ ⟨p0,rx,p2,p3,p4,p5,p6⟩ rfl)⟩
  case rest=>
  clear HX;obtain⟨p,HX⟩:=hcut;go_upto_region 13 with(fail)
  go_cut [] (λW=>∃p,Hid (S4 w (.slice A' ps.length c') ps gx p W));case first=>obtain⟨k0,k1⟩:wc.cell? (ad.block,(ad.add (k*43)).off+20)=some (.int .u8 s.m2.k)/\wc.cell? (ad.block,(ad.add (k*43)).off+20+1)=some (.int .i64 s.m2.n):=⟨by rw[sV _ _ _ (by omega)];exact xS.out _ HX.b 20 _ rfl,by rw[show(⟨ad.block,(ad.add (k*43)).off+20+1,none⟩:Addr)=⟨ad.block,(ad.add (k*43)).off+21,none⟩from rfl,sV _ _ _ (by omega)];exact xS.out _ HX.b 21 _ rfl⟩;have mr:ad.block<wc.heap.size:=YK E5.out HX.b.size;go_wp2_with (go_at_call 84;refine(rj _ _ _ _).mono ?_;rintro e w3 ⟨⟨rx,rb,rfl⟩,pn⟩;have zF:=X6 (HX.lR pn);clear pn HX;have xl:=zF.x.lt;have xf:=zF.x.frozen;have o0:=zF.x.get 2 rfl);go_meet;obtain⟨p0,p1,p2,p3,p4,p5,p6⟩:=p;exact⟨_,X6 (zF.lA 2 _ ⟨p0,p1,rx,p3,p4,p5,p6⟩ rfl)⟩
  case rest=>
  clear HX;obtain⟨p,HX⟩:=hcut;obtain⟨p0,p1,p2,p3,p4,p5,p6⟩:=p;obtain⟨o0,o1,o2,o3,o4,o5,o6⟩:wc.cell? (gx,0)=p0/\wc.cell? (gx,1)=p1/\wc.cell? (gx,2)=p2/\wc.cell? (gx,3)=p3/\wc.cell? (gx,4)=p4/\wc.cell? (gx,5)=p5/\wc.cell? (gx,6)=p6:=⟨HX.x.get 0 rfl,HX.x.get 1 rfl,HX.x.get 2 rfl,HX.x.get 3 rfl,HX.x.get 4 rfl,HX.x.get 5 rfl,HX.x.get 6 rfl⟩;have xl:=HX.x.lt;have oA:ps.length+1<=4294967296:=by have:=HK.out;have:=HN.out;omega
  go_wp2_with (at_builtin;refine lM (m:=1) rfl _ _ rfl el_ptQ HX.o HX.b.size rfl [.int .i64 p0,.int .i64 p1,.int .i64 p2,.int .i64 p3,.int .i64 p4,.int .i64 p5,.int .i64 p6] rfl rfl (by simp[Value.oneCell']) oA (by omega) ?_;intro A6 c6 w6 mF uK oO pa;have BV:=X6 (Zn (p:=⟨p0,p1,p2,p3,p4,p5,p6⟩) HK.out mF HX.o HX.b oO);clear mF uK oO pa);go_roundw;case rel=>exact⟨k+1,_,by omega,by go_num,BV⟩
  case measure=>simp[intOf];omega
end
end
section
attribute [local go_sem] lp
def pe(W:World)(g n:Nat):Prop:=∃cs:Array Value,lq W g 2 cs/\cs.size=n/\∀k,k<n->∃v:Int,cs[k]? =some (.int .i64 v)
def pq(W:World)(g n:Nat):Prop:=∃cs:Array Value,lq W g 4 cs/\cs.size=n/\∀k,k<n->∃v:Bool,cs[k]? =some (.bool v)
section
variable{W W':World}{g n:Nat}
theorem pe.lt(h:pe W g n):g<W.heap.size:=by obtain⟨cs,h1,_⟩:=h;exact h1.lt
theorem pq.lt(h:pq W g n):g<W.heap.size:=by obtain⟨cs,h1,_⟩:=h;exact h1.lt
theorem pe.at_(h:pe W g n){k:Nat}(hk:k<n):∃v:Int,W.cell? (g,k)=v:=by obtain⟨cs,h1,_,h2⟩:=h;obtain⟨v,hv⟩:=h2 k hk;exact⟨v,h1.get k hv⟩
theorem pq.at_(h:pq W g n){k:Nat}(hk:k<n):∃v:Bool,W.cell? (g,k)=v:=by obtain⟨cs,h1,_,h2⟩:=h;obtain⟨v,hv⟩:=h2 k hk;exact⟨v,h1.get k hv⟩
theorem pe.frozen(h:pe W g n)(k:Nat):W.frozen? (g,k)=false:=by obtain⟨cs,h1,_⟩:=h;exact h1.frozen k
theorem pq.frozen(h:pq W g n)(k:Nat):W.frozen? (g,k)=false:=by obtain⟨cs,h1,_⟩:=h;exact h1.frozen k
theorem pe.below{B:Nat}(h:pe W g n)(hb:Below B W W')(hg:g<B):pe W' g n:=by obtain⟨cs,h1,h2⟩:=h;exact⟨cs,h1.below hb hg,h2⟩
theorem pq.below{B:Nat}(h:pq W g n)(hb:Below B W W')(hg:g<B):pq W' g n:=by obtain⟨cs,h1,h2⟩:=h;exact⟨cs,h1.below hb hg,h2⟩
theorem pe.lQ(h:pe W g n){p:Addr}(hp:g≠p.block)(u:Value):pe (W.setCell p u) g n:=by obtain⟨cs,h1,h2⟩:=h;exact⟨cs,h1.lQ hp u,h2⟩
theorem pq.lQ(h:pq W g n){p:Addr}(hp:g≠p.block)(u:Value):pq (W.setCell p u) g n:=by obtain⟨cs,h1,h2⟩:=h;exact⟨cs,h1.lQ hp u,h2⟩
theorem pe.grown(h:pe W g n){row:Option Nat}(hg:W.grownBy W' row)(mI:some g≠row):pe W' g n:=by obtain⟨cs,h1,h2⟩:=h;exact⟨cs,h1.grown hg mI,h2⟩
theorem pq.grown(h:pq W g n){row:Option Nat}(hg:W.grownBy W' row)(mI:some g≠row):pq W' g n:=by obtain⟨cs,h1,h2⟩:=h;exact⟨cs,h1.grown hg mI,h2⟩
theorem pe.lA(h:pe W g n)(j:Nat)(v:Int):pe (W.setCell (g,j) v) g n:=by
 obtain⟨cs,h1,h2,h3⟩:=h;refine⟨_,h1.lA j v,by simpa using h2,λk hk=>?_⟩;rw[aAM];by_cases e:j=k
 ·subst e;exact⟨v,by simp[h2,hk]⟩
 ·rw[YO e];exact h3 k hk
theorem pq.lA(h:pq W g n)(j:Nat)(v:Bool):pq (W.setCell (g,j) (.bool v)) g n:=by
 obtain⟨cs,h1,h2,h3⟩:=h;refine⟨_,h1.lA j (.bool v),by simpa using h2,λk hk=>?_⟩;rw[aAM];by_cases e:j=k
 ·subst e;exact⟨v,by simp[h2,hk]⟩
 ·rw[YO e];exact h3 k hk
theorem pe.reads(h:pe W g n):∃l:List Int,l.length=n/\Reads W W.heap.size 1 (some ⟨g,0,none⟩) n (lY l):=by
 obtain⟨cs,h1,h2,h3⟩:=h;have e:lY (cs.toList.map intOf)=cs.toList:=by
  apply List.ext_getElem?;intro k;unfold lY;rw[List.map_map,aAT];by_cases hk:k<n
  ·obtain⟨v,hv⟩:=h3 k hk;rw[Array.getElem?_toList,hv];rfl
  ·rw[Array.getElem?_toList,ZC (by omega)];rfl
 refine⟨cs.toList.map intOf,by simpa using h2,?_⟩;rw[e];refine⟨by simpa using h2,λ_=>⟨_,rfl,h1.lt,λj u hu=>?_⟩⟩;have ha:(⟨g,0,none⟩:Addr).add j=⟨g,j,none⟩:=by unfold Addr.add;split<;>simp_all
 rw[ha];exact h1.get j (by simpa using hu)
end
structure UP where
 node:Int
 fr:Int
 up:Int
 x:Int
 w:Int
def Ih(p:UP):List Value:=[.int .i64 p.node,.int .i64 p.fr,.int .i64 p.up,.int .i64 p.x,.int .i64 p.w]
def rZ(l:List UP):List Value:=l.flatMap Ih
theorem FR(l:List UP)(x:UP):rZ (l++[x])=rZ l++Ih x:=by simp[rZ]
structure CX where
 y:Int
 h:Int
 A:Option Addr
 c:Nat
 ps:List UP
def tP(l:CX):List Value:=[.int .i64 l.y,.int .i64 l.h,.slice l.A l.ps.length l.c]
def pZ(l:List CX):List Value:=l.flatMap tP
theorem Gc(l:List CX)(x:CX):pZ (l++[x])=pZ l++tP x:=by simp[pZ]
def Ul(B:Nat)(W:World)(l:CX):Prop:=W.ownsRow B 237 5 (.slice l.A l.ps.length l.c) l.ps.length (rZ l.ps)/\l.ps.length<=4294967296
structure oh(B:Nat)(W:World)(v:Value)(ls:List CX):Prop where
 o:W.ownsRow B 79 3 v ls.length (pZ ls)
 n:ls.length<=3600060000
 l:∀l∈ls,Ul B W l
theorem oh.nil(B:Nat)(W:World):oh B W (.slice none 0 0) []:=⟨YV _ _ _ _,by simp,by simp⟩
theorem oh.kept{B:Nat}{W W':World}{v:Value}{ls:List CX}(h:oh B W v ls)(h1:Kt 79 B W W')(h2:Kt 237 B W W'):oh B W' v ls:=
 ⟨h1.own (X7 _) h.o,h.n,λl hl=>⟨h2.own (X7 _) (h.l l hl).1,(h.l l hl).2⟩⟩
theorem mL{B B':Nat}{W:World}{t:TypeId}{size n:Nat}{v:Value}{xs:List Value}(h:W.ownsRow B t size v n xs)(hB:B'<=B):W.ownsRow B' t size v n xs:=by
 refine⟨h.1,?_⟩;rcases h.2 with h1 | ⟨g,cap,cur,h1,h2,h3⟩
 ·exact .inl h1
 ·exact .inr ⟨g,cap,cur,h1,YL hB h2,h3⟩
theorem oh.low{B B':Nat}{W:World}{v:Value}{ls:List CX}(h:oh B W v ls)(hB:B'<=B):oh B' W v ls:=
 ⟨mL h.o hB,h.n,λl hl=>⟨mL (h.l l hl).1 hB,(h.l l hl).2⟩⟩
structure uF where
 x:Int
 y:Int
 w:Int
 h:Int
 A:Option Addr
 c:Nat
 ls:List CX
def mq(f:uF):List Value:=[.int .i64 f.x,.int .i64 f.y,.int .i64 f.w,.int .i64 f.h,.slice f.A f.ls.length f.c]
def lO(l:List uF):List Value:=l.flatMap mq
theorem yn(l:List uF)(x:uF):lO (l++[x])=lO l++mq x:=by simp[lO]
theorem tL(l:List uF):∀(k i:Nat) (hk:k<l.length),i<5->(lO l)[k*5+i]? =(mq l[k])[i]?:=by
 induction l with
 | nil=>intro k i hk;simp at hk
 | cons a t ih=>
  intro k i hk hi;have hc:lO (a::t)=mq a++lO t:=by simp[lO]
  have hl:(mq a).length=5:=rfl;rw[hc];rcases k with _ | k
  ·rw[YN (by omega)];simp
  ·rw[YQ (by omega),show(k+1)*5+i-(mq a).length=k*5+i by omega,ih k i (by simpa using hk) hi];simp
theorem Aa(l:List uF):(lO l).length=l.length*5:=by
 induction l with
 | nil=>rfl
 | cons a t ih=>rw[show lO (a::t)=mq a++lO t by simp[lO],YM,ih,ZA];simp[mq];omega
def qT(B:Nat)(W:World)(f:uF):Prop:=oh B W (.slice f.A f.ls.length f.c) f.ls
def qX(B:Nat)(W:World)(g n:Nat):Prop:=∃fs:List uF,fs.length=n/\lq W g 43 (lO fs).toArray/\∀f∈fs,qT B W f
section
variable{B:Nat}{W W':World}{g n:Nat}
theorem qX.lt(h:qX B W g n):g<W.heap.size:=by obtain⟨cs,_,h1,_⟩:=h;exact h1.lt
theorem qX.frozen(h:qX B W g n)(k:Nat):W.frozen? (g,k)=false:=by obtain⟨cs,_,h1,_⟩:=h;exact h1.frozen k
theorem qX.at_(h:qX B W g n){k:Nat}(hk:k<n):∃f:uF,qT B W f/\W.cell? (g,k*5)=f.x/\W.cell? (g,k*5+1)=f.y/\W.cell? (g,k*5+2)=f.w/\W.cell? (g,k*5+3)=f.h/\W.cell? (g,k*5+4)=some (.slice f.A f.ls.length f.c):=by
 obtain⟨fs,h1,h2,h3⟩:=h;have SU:k<fs.length:=by omega
 have hg:∀i,i<5->∀u,(mq fs[k])[i]? =some u->W.cell? ⟨g,k*5+i,none⟩=some u:=λi hi u hu=>h2.get _ (by rw[YR,tL fs k i SU hi];exact hu);exact⟨fs[k],h3 _ (YJ SU),hg 0 (by omega) _ rfl,hg 1 (by omega) _ rfl,hg 2 (by omega) _ rfl,hg 3 (by omega) _ rfl,hg 4 (by omega) _ rfl⟩
theorem qX.kept(h:qX B W g n)(hw:∀cs,lq W g 43 cs->lq W' g 43 cs)(h1:Kt 79 B W W')(h2:Kt 237 B W W'):qX B W' g n:=by obtain⟨fs,h3,h4,h5⟩:=h;exact⟨fs,h3,hw _ h4,λf hf=>(h5 f hf).kept h1 h2⟩
theorem qX.below(h:qX B W g n)(hb:Below W.heap.size W W'):qX B W' g n:=h.kept (λ_ hc=>hc.below hb hc.lt) (Kt.below hb) (Kt.below hb)
theorem fg_set0(l:List uF)(v:Int):∀(k:Nat) (hk:k<l.length),(lO l).set (k*5) (.int .i64 v)=lO (l.set k {l[k]with x:=v}):=by
 induction l with
 | nil=>intro k hk;simp at hk
 | cons a t ih=>
  intro k hk;have hc:∀a t,lO (a::t)=mq a++lO t:=λa t=>by simp[lO]
  rcases k with _ | k
  ·simp[hc,mq]
  ·rw[hc,aAI _ _ (by simp[mq];omega),show(k+1)*5-(mq a).length=k*5 by simp[mq];omega,ih k (by simpa using hk)];simp[hc]
theorem aaH(l:List uF)(v:Int):∀(k:Nat) (hk:k<l.length),(lO l).set (k*5+1) (.int .i64 v)=lO (l.set k {l[k]with y:=v}):=by
 induction l with
 | nil=>intro k hk;simp at hk
 | cons a t ih=>
  intro k hk;have hc:∀a t,lO (a::t)=mq a++lO t:=λa t=>by simp[lO]
  rcases k with _ | k
  ·simp[hc,mq]
  ·rw[hc,aAI _ _ (by simp[mq];omega),show(k+1)*5+1-(mq a).length=k*5+1 by simp[mq];omega,ih k (by simpa using hk)];simp[hc]
theorem Yu(l:List uF)(v:Int):∀(k:Nat) (hk:k<l.length),(lO l).set (k*5+2) (.int .i64 v)=lO (l.set k {l[k]with w:=v}):=by
 induction l with
 | nil=>intro k hk;simp at hk
 | cons a t ih=>
  intro k hk;have hc:∀a t,lO (a::t)=mq a++lO t:=λa t=>by simp[lO]
  rcases k with _ | k
  ·simp[hc,mq]
  ·rw[hc,aAI _ _ (by simp[mq];omega),show(k+1)*5+2-(mq a).length=k*5+2 by simp[mq];omega,ih k (by simpa using hk)];simp[hc]
theorem fg_set3(l:List uF)(v:Int):∀(k:Nat) (hk:k<l.length),(lO l).set (k*5+3) (.int .i64 v)=lO (l.set k {l[k]with h:=v}):=by
 induction l with
 | nil=>intro k hk;simp at hk
 | cons a t ih=>
  intro k hk;have hc:∀a t,lO (a::t)=mq a++lO t:=λa t=>by simp[lO]
  rcases k with _ | k
  ·simp[hc,mq]
  ·rw[hc,aAI _ _ (by simp[mq];omega),show(k+1)*5+3-(mq a).length=k*5+3 by simp[mq];omega,ih k (by simpa using hk)];simp[hc]
theorem aac(l:List uF)(A:Option Addr)(c:Nat)(ls:List CX):∀(k:Nat) (hk:k<l.length),(lO l).set (k*5+4) (.slice A ls.length c)=lO (l.set k {l[k]with A:=A,c:=c,ls:=ls}):=by
 induction l with
 | nil=>intro k hk;simp at hk
 | cons a t ih=>
  intro k hk;have hc:∀a t,lO (a::t)=mq a++lO t:=λa t=>by simp[lO]
  rcases k with _ | k
  ·simp[hc,mq]
  ·rw[hc,aAI _ _ (by simp[mq];omega),show(k+1)*5+4-(mq a).length=k*5+4 by simp[mq];omega,ih k (by simpa using hk)];simp[hc]
theorem qX.put(h:qX B W g n)(o:Nat)(u:Value)(hs:∀fs:List uF,fs.length=n->∃I7,I7.length=n/\(lO fs).set o u=lO I7/\((∀f∈fs,qT B (W.setCell (g,o) u) f)->∀f∈I7,qT B (W.setCell (g,o) u) f)):qX B (W.setCell (g,o) u) g n:=by obtain⟨fs,h1,h2,h3⟩:=h;obtain⟨I7,h4,h5,h6⟩:=hs fs h1;refine⟨I7,h4,?_,h6 λf hf=>(h3 f hf).kept (Kt.setCell _ (.inr ⟨_,_,by decide,h2⟩)) (Kt.setCell _ (.inr ⟨_,_,by decide,h2⟩))⟩;have:=h2.lA o u;rwa[X8,h5]at this
theorem xm{α:Type}{l:List α}{k:Nat}{x y:α}(h:y∈l.set k x):y=x\/y∈l:=by
 rcases aCY h with h | h
 ·exact .inr h
 ·exact .inl h
theorem qX.xq(h:qX B W g n){k:Nat}(hk:k<n)(v:Int):qX B (W.setCell (g,k*5) v) g n:=
 h.put _ _ λfs hl=>⟨_,by simpa using hl,fg_set0 fs v k (by omega),λhf f hm=>by
  rcases xm hm with rfl | hm
  ·exact hf fs[k] (YJ (by omega))
  ·exact hf f hm⟩
theorem qX.F7(h:qX B W g n){k:Nat}(hk:k<n)(v:Int):qX B (W.setCell (g,k*5+1) v) g n:=
 h.put _ _ λfs hl=>⟨_,by simpa using hl,aaH fs v k (by omega),λhf f hm=>by
  rcases xm hm with rfl | hm
  ·exact hf fs[k] (YJ (by omega))
  ·exact hf f hm⟩
theorem qX.Nc(h:qX B W g n){k:Nat}(hk:k<n)(v:Int):qX B (W.setCell (g,k*5+2) v) g n:=
 h.put _ _ λfs hl=>⟨_,by simpa using hl,Yu fs v k (by omega),λhf f hm=>by
  rcases xm hm with rfl | hm
  ·exact hf fs[k] (YJ (by omega))
  ·exact hf f hm⟩
theorem qX.EU(h:qX B W g n){k:Nat}(hk:k<n)(v:Int):qX B (W.setCell (g,k*5+3) v) g n:=
 h.put _ _ λfs hl=>⟨_,by simpa using hl,fg_set3 fs v k (by omega),λhf f hm=>by
  rcases xm hm with rfl | hm
  ·exact hf fs[k] (YJ (by omega))
  ·exact hf f hm⟩
theorem qX.FD(h:qX B W g n){k:Nat}(hk:k<n){A:Option Addr}{c:Nat}{ls:List CX}(hl:oh B W (.slice A ls.length c) ls):qX B (W.setCell (g,k*5+4) (.slice A ls.length c)) g n:=
 have h2:oh B (W.setCell (g,k*5+4) (.slice A ls.length c)) (.slice A ls.length c) ls:=by obtain⟨fs,_,hb,_⟩:=h;exact hl.kept (Kt.setCell _ (.inr ⟨_,_,by decide,hb⟩)) (Kt.setCell _ (.inr ⟨_,_,by decide,hb⟩))
 h.put _ _ λfs hl=>⟨_,by simpa using hl,aac fs A c ls k (by omega),λhf f hm=>by
  rcases xm hm with rfl | hm
  ·exact h2
  ·exact hf f hm⟩
end
theorem Ow{α:Type}(f:α->List Value)(n:Nat)(hn:0<n)(hf:∀x,(f x).length=n)(z:α)(k:Nat)(hat:∀(l:List α) (k i:Nat) (hk:k<l.length),i<n->(l.flatMap f)[k*n+i]? =(f l[k])[i]?)(hlen:∀l:List α,(l.flatMap f).length=l.length*n):madeCells (f z).toArray (k*n)=((List.replicate k z).flatMap f).toArray:=by
 have hl:((List.replicate k z).flatMap f).length=k*n:=by rw[hlen];simp
 apply aBB;intro x;by_cases hx:x<k*n
 ·have hj:x / n<k:=aDJ (by rw[aC8];exact hx);have hr:x % n<n:=Nat.mod_lt _ hn;have e:x=x / n*n+x % n:=by have:=Nat.div_add_mod x n;rw[aC8]at this;omega
  have e2:((List.replicate k z).flatMap f).toArray[x]? =(f z)[x % n]?:=by
   rw[YR];conv=>lhs;rw[e]
   rw[hat _ _ _ (by simpa using hj) hr];simp
  rw[e2,Z5 (by rw[aBA];exact hx)];simp only[madeCells,aCB,aBX];have hs:(f z).toArray.size=n:=by simpa using hf z
  rw[hs,YH (by rw[hf];exact hr),getElem!_pos _ _ (by rw[hs];exact hr)];simp
 ·rw[ZC (by rw[aBA];omega),YR,ZG (by omega)]
def U0:uF:=⟨0,0,0,0,none,0,[]⟩
theorem BL:El prog 30 43 (.agg #[lx,lx,lx,lx,lH]) 5 56:=⟨underlying30,by kernel_rfl,rfl,by decide⟩
theorem AF:El prog 23 2 (.int .i64 0) 1 8:=⟨underlying23,by kernel_rfl,rfl,by decide⟩
theorem vH:El prog 53 4 (.bool false) 1 1:=⟨underlying53,by kernel_rfl,rfl,by decide⟩
theorem Hq(n:Nat)(hn:n<=1000000)(w:World):(Instr.makeSlice 30 (.int .i64 (n:Int)) (.int .i64 (n:Int))).run prog w= .ok (.slice w.heap.size n n) (w.alloc (.cells (lO (List.replicate n U0)).toArray 43)):=by obtain⟨i,hi,hz,hs,hb⟩:=Nr BL.info;have h:=S9 (P:=prog) (w:=w) 30 43 i _ BL.ht hi hz .i64 .i64 (n:Int) (n:Int) (by omega) (by omega) (by rw[hs];omega) (by rw[hb];omega) (by omega);rw[h,hs,ZM,show madeCells (Value.agg #[lx,lx,lx,lx,lH]).cells (n*5)=madeCells (mq U0).toArray (n*5)from rfl,Ow mq 5 (by decide) (λ_=>rfl) _ _ tL Aa];rfl
theorem qX.new(B:Nat)(W:World)(n g:Nat)(hg:g=W.heap.size):qX B (W.alloc (.cells (lO (List.replicate n U0)).toArray 43)) g n:=
 ⟨_,by simp,lq.at_ _ _ _ hg,λf hf=>by rw[aBY hf];exact oh.nil _ _⟩
theorem xB(n:Nat)(hn:n<=1000000)(w:World):(Instr.makeSlice 23 (.int .i64 (n:Int)) (.int .i64 (n:Int))).run prog w= .ok (.slice w.heap.size n n) (w.alloc (.cells (lY (List.replicate n 0)).toArray 2)):=by
 obtain⟨i,hi,hz,hs,hb⟩:=Nr AF.info;have h:=S9 (P:=prog) (w:=w) 23 2 i _ AF.ht hi hz .i64 .i64 (n:Int) (n:Int) (by omega) (by omega) (by rw[hs];omega) (by rw[hb];omega) (by omega);have hm:madeCells (Value.int .i64 0).cells (n*1)=(lY (List.replicate n 0)).toArray:=by apply aAZ.1;rw[aB2];show(madeCells #[.int .i64 0] n).toList=_;rw[aA2];simp[lY]
 rw[h,hs,ZM,hm]
theorem pe.new(W:World)(n g:Nat)(hg:g=W.heap.size):pe (W.alloc (.cells (lY (List.replicate n 0)).toArray 2)) g n:=
 ⟨_,lq.at_ _ _ _ hg,by simp[lY],λk hk=>⟨0,by simp[lY,hk]⟩⟩
def wm(n:Nat):List Value:=List.replicate n (.bool false)
theorem uI(n:Nat)(hn:n<=1000000)(w:World):(Instr.makeSlice 53 (.int .i64 (n:Int)) (.int .i64 (n:Int))).run prog w= .ok (.slice w.heap.size n n) (w.alloc (.cells (wm n).toArray 4)):=by
 obtain⟨i,hi,hz,hs,hb⟩:=Nr vH.info;have h:=S9 (P:=prog) (w:=w) 53 4 i _ vH.ht hi hz .i64 .i64 (n:Int) (n:Int) (by omega) (by omega) (by rw[hs];omega) (by rw[hb];omega) (by omega);have hm:madeCells (Value.bool false).cells (n*1)=(wm n).toArray:=by apply aAZ.1;rw[aB2];show(madeCells #[.bool false] n).toList=_;rw[aA2];simp[wm]
 rw[h,hs,ZM,hm]
theorem pq.new(W:World)(n g:Nat)(hg:g=W.heap.size):pq (W.alloc (.cells (wm n).toArray 4)) g n:=
 ⟨_,lq.at_ _ _ _ hg,by simp[wm],λk hk=>⟨false,by simp[wm,hk]⟩⟩
end
section
attribute [local go_sem] lp
def nA(l:List Nat):List Value:=l.map λx:Nat=>Value.int .i64 (x:Int)
structure QTr(l:List Nd):Prop where
 n:l.length<=65536
 uv:∀x∈l,∃Au nu cu,x.s.uv= .slice Au nu cu
 par:∀i (h:i<l.length),0<i->0<=l[i].parent/\l[i].parent<(i:Int)
 zero:0<l.length->mZ l 0=true
section
variable(l:List Nd)(A A2:Option Addr)(c m c2:Nat)(view:Int)(w:World)
theorem Uy(i:Nat)(hi:i<l.length)(hn:l.length<=65536)(hr:Reads w w.heap.size 44 A l.length (lI l)): Calls prog 134 #[.agg #[.slice A l.length c,.slice A2 m c2,view],.int .i64 (i:Int)] w λe w'=>e= .returned (.bool (!(l[i].s.kind == 3)))/\Below w.heap.size w w':=by
 have d0:decide ((0:Int)<=(i:Int))=true:=YC (by omega);have d1:decide ((i:Int)<(l.length:Int))=true:=YC (by omega);have d1':decide (i<l.length)=true:=YC hi;have wQ:(i:Int)<(l.length:Int):=by omega
 have X0:=X6 (λW (hb:Below w.heap.size w W)=>(hr.below hb).nd rfl hi);have mA:Hid (Below w.heap.size w (w.alloc (.cells #[.slice A l.length c,.slice A2 m c2,view] 25))):=X6 bA;obtain⟨ad,rfl,Rb⟩:=X0.out _ mA.out;obtain⟨y,y0,-,-⟩:=yd Rb;have hb:ad.block<w.heap.size+1:=by have:=aA7 _ ⟨ad.block,(ad.add (i*44)).off+1,none⟩ y0;simpa using this
 obtain⟨kd,Cl⟩:∃x,l[i].s.kind=x:=⟨_,rfl⟩;rw[Cl]at y0⊢;clear Rb Cl hr y X0;have n0:(kd != 3)= !(kd == 3):=rfl;go_enter func134,ntmps134;go_wp2_with fail;go_ret;exact⟨rfl,mA.out⟩
theorem Wk(ht:QTr l)(i:Nat)(hi:i<l.length)(hr:Reads w w.heap.size 44 A l.length (lI l)): Calls prog 135 #[.agg #[.slice A l.length c,.slice A2 m c2,view],.int .i64 (i:Int)] w λe w'=>(∃r:Nat,e= .returned r/\r<l.length)/\Below w.heap.size w w':=by
 have HT:=X6 ht;have vY:=X6 (λW (hb:Below w.heap.size w W)=>hr.below hb);have yT:=X6 (λW (i:Nat) (hi:i<l.length) (hb:Below w.heap.size w W)=>qc l A A2 c m c2 view W i hi ht.n ((hr.below hb).more hb.size) (ht.uv _ (YJ hi)));have vp:Hid (lq (w.alloc (.cells #[.slice A l.length c,.slice A2 m c2,view] 25)) w.heap.size 25 #[.slice A l.length c,.slice A2 m c2,view]/\Below w.heap.size w (w.alloc (.cells #[.slice A l.length c,.slice A2 m c2,view] 25))):=X6 ⟨lq.new _ _ _,bA⟩;clear hr ht;go_enter func135,ntmps135;go_wp2_with fail;go_loopw [1] (λkv wr=>∃k:Nat,k<l.length/\kv= .int .i64 (k:Int)/\Hid (lq wr w.heap.size 25 #[.slice A l.length c,.slice A2 m c2,view]/\Below w.heap.size w wr)) (λkv _=>(intOf kv).toNat);case atStart=>exact⟨i,hi,rfl,vp⟩
 case round=>
  clear vp;obtain⟨k,hk,rfl,HI⟩:=hrel;obtain⟨t0,t1,t2⟩:=HI.1.c3;have tl:=HI.1.lt;have Fe:(k:Int)<(l.length:Int):=by omega
  cases er:mZ l k
  ·have zD:0<k:=by
    rcases aAN k with e | e
    ·subst e;rw[HT.zero (by omega)]at er;cases er
    ·exact e
   obtain⟨p1,p2⟩:=HT.par k hk zD;obtain⟨p,hp⟩:∃p:Nat,(p:Int)=l[k].parent:=⟨l[k].parent.toNat,by omega⟩;have HP:Hid (∀W,Below w.heap.size w W->∃ad,A=some ad/\W.cell? (ad.add (k*44))=(p:Int)/\ad.block<W.heap.size):=X6 (λW hb=>by obtain⟨ad,e,hn⟩:=(vY.out W hb).nd rfl hk;exact⟨ad,e,by rw[hp];exact hn.par,by have:=hn.lt;rw[lp]at this;exact YK this hb.size⟩);go_upto_region 2 with(go_at_call 31;refine(yT.out _ k hk HI.2).mono ?_;rintro e w2 ⟨rfl,mr⟩;rw[er];have qI:=X6 (And.intro (HI.1.below mr HI.1.lt) (HI.2.trans (mr.mono HI.2.size)));clear mr);clear t0 t1 t2 tl HI;obtain⟨t0,t1,t2⟩:=qI.1.c3;have tl:=qI.1.lt;obtain⟨ad,rfl,x0,xl⟩:=HP.out _ qI.2;clear HP;go_wp2_with fail;go_roundw;case rel=>exact⟨p,by omega,by rw[hp],qI⟩
   case measure=>simp[intOf];omega
  ·go_wp2_with (go_at_call 31;refine(yT.out _ k hk HI.2).mono ?_;rintro e w2 ⟨rfl,mr⟩;rw[er];have qI:=X6 (And.intro (HI.1.below mr HI.1.lt) (HI.2.trans (mr.mono HI.2.size)));clear mr);go_ret;exact⟨⟨_,rfl,hk⟩,qI.2⟩
theorem MS(i:Nat)(hi:i<l.length)(h:mZ l i=true):(l[i].s.kind == 3)=false:=by
 unfold mZ at h;rw[YH hi]at h;cases e:(l[i].s.kind == 3)
 ·rfl
 ·simp only[e,aDM,aDI]at h;cases h
structure Yi(wr:World)(v:Value)(ns:List Nat):Prop where
 t:lq wr w.heap.size 25 #[.slice A l.length c,.slice A2 m c2,view]
 o:wr.ownsRow w.heap.size 3 1 v ns.length (nA ns)
 b:Below w.heap.size w wr
section
variable{l A A2 c m c2 view w}
theorem Yi.lR{wr w':World}{v:Value}{ns:List Nat}(h:Yi l A A2 c m c2 view w wr v ns)(hb:Below wr.heap.size wr w'):Yi l A A2 c m c2 view w w' v ns:=
 ⟨h.t.below hb h.t.lt,lG h.o hb,h.b.trans (hb.mono h.b.size)⟩
theorem Yi.app{wr w':World}{v v':Value}{ns:List Nat}(h:Yi l A A2 c m c2 view w wr v ns)(k:Nat)(hg:wr.grownBy w' v.ownBlock)(ho:w'.ownsRow w.heap.size 3 1 v' (ns.length+1) (nA ns++[.int .i64 (k:Int)])):Yi l A A2 c m c2 view w w' v' (ns++[k]):=
 ⟨h.t.grown hg (λe=>lD h.o h.t (by decide) e.symm),by rw[show nA (ns++[k])=nA ns++[.int .i64 (k:Int)] by simp[nA],YM];exact ho,h.b.grown hg h.b.size (λg e=>(h.o.lt g e).1)⟩
end
theorem BS(ht:QTr l)(r:Nat)(tf:r<l.length)(qs:mZ l r=true)(hr:Reads w w.heap.size 44 A l.length (lI l)): Calls prog 78 #[.agg #[.slice A l.length c,.slice A2 m c2,view],.int .i64 (r:Int)] w λe w'=>(∃v ns,e= .returned v/\w'.ownsRow w.heap.size 3 1 v ns.length (nA ns)/\ns.length<=l.length/\∀x∈ns,0<x/\x<l.length/\∀h:x<l.length,(l[x].s.kind == 3)=false)/\Below w.heap.size w w':=by
 have HT:=X6 ht;have vY:=X6 (λW (hb:Below w.heap.size w W)=>hr.below hb);have yT:=X6 (λW (hb:Below w.heap.size w W)=>qc l A A2 c m c2 view W r tf ht.n ((hr.below hb).more hb.size) (ht.uv _ (YJ tf)));have HBX:=X6 (λW (i:Nat) (hi:i<l.length) (hb:Below w.heap.size w W)=>Uy l A A2 c m c2 view W i hi ht.n ((hr.below hb).more hb.size));have Yf:=X6 (λW (i:Nat) (hi:i<l.length) (hb:Below w.heap.size w W)=>Wk l A A2 c m c2 view W ht i hi ((hr.below hb).more hb.size));have FF:=MS l r tf qs;rw[qs]at yT;have HBR:=X6 (λW (hb:Below w.heap.size w W)=>HBX.out W r tf hb);rw[FF]at HBR;have vp:Hid (Yi l A A2 c m c2 view w (w.alloc (.cells #[.slice A l.length c,.slice A2 m c2,view] 25)) (.slice none 0 0) []):=X6 ⟨lq.new _ _ _,YV _ _ _ _,bA⟩;clear hr ht FF qs;go_enter func78,ntmps78;go_upto_region 2 with(fail)
 generalize w.alloc _=w1 at vp⊢;obtain⟨t0,t1,t2⟩:=vp.t.c3;have tl:=vp.t.lt;go_upto_region 4 with(first | (go_at_call 134;refine(HBR.out _ vp.b).mono ?_;rintro e w2 ⟨rfl,mr⟩;have qI:=X6 (vp.lR mr);clear mr t0 t1 t2 tl;obtain⟨t0,t1,t2⟩:=qI.t.c3;have tl:=qI.t.lt) | (go_at_call 31;refine(yT.out _ qI.b).mono ?_;rintro e w3 ⟨rfl,pn⟩;have wI:=X6 (qI.lR pn);clear pn t0 t1 t2 tl))
 clear yT HBR vp qI;go_upto_region 5 with(fail)
 go_loopw [5,6] (λv kv wr=>∃(k:Nat) (ns:List Nat),1<=k/\k<=l.length/\ns.length<=k/\kv= .int .i64 (k:Int)/\(∀x∈ns,0<x/\x<l.length/\∀h:x<l.length,(l[x].s.kind == 3)=false)/\Hid (Yi l A A2 c m c2 view w wr v ns)) (λ_ kv _=>l.length-(intOf kv).toNat);case atStart=>exact⟨1,[],by omega,by omega,by simp,rfl,by simp,wI⟩
 case round=>
  clear wI;obtain⟨k,ns,zH,hk,hns,rfl,AQ,HI⟩:=hrel;have HM:=X6 AQ;clear AQ;obtain⟨t0,t1,t2⟩:=HI.t.c3;have tl:=HI.t.lt;by_cases lN:k<l.length
  ·have d0:decide ((k:Int)<(l.length:Int))=true:=YC (by omega);have pJ:decide (k<l.length)=true:=YC lN;have Fe:(k:Int)<(l.length:Int):=(by omega);have C2:IntKind.i64.wrap ((k:Int)+1)=(k:Int)+1:=YG _ ⟨by omega,by have:=HT.n;omega⟩;have oA:ns.length+1<=4294967296:=(by have:=HT.n;omega);obtain⟨p1,p2⟩:=HT.par k lN (by omega);obtain⟨p,hp⟩:∃p:Nat,(p:Int)=l[k].parent:=⟨l[k].parent.toNat,by omega⟩;obtain⟨ad,rfl,-⟩:=(vY.out _ HI.b).nd rfl lN;have wZ:Hid (∀W v ns,Yi l (some ad) A2 c m c2 view w W v ns->W.cell? (w.heap.size,0)=some (.slice (some ad) l.length c)/\W.cell? (w.heap.size,1)=some (.slice A2 m c2)/\W.cell? (w.heap.size,2)=view/\W.cell? (ad.add (k*44))=(p:Int)):=X6 (λW v ns h=>by obtain⟨FT,e,hn⟩:=(vY.out W h.b).nd rfl lN;injection e with e;subst e;exact⟨h.t.c3.1,h.t.c3.2.1,h.t.c3.2.2,by rw[hp];exact hn.par⟩);have Ye:p<l.length:=(by omega);have Hl:=X6 (λW (hb:Below w.heap.size w W)=>HBX.out W k lN hb);have HIP:=X6 (λW (hb:Below w.heap.size w W)=>Yf.out W p Ye hb);have HId:Hid (Yi l (some ad) A2 c m c2 view w wr.drew u5 ns):=X6 ⟨HI.t,HI.o,HI.b.drew⟩;clear p1 p2 hp;go_upto_region 7 with(fail)
   clear t0 t1 t2 tl HI;cases eb:(l[k].s.kind == 3)
   ·have HEB:=X6 eb;rw[eb]at Hl;refine wp_region_held_drew (S:=λW=>W.cell? (w.heap.size,0)=some (.slice (some ad) l.length c)/\W.cell? (w.heap.size,1)=some (.slice A2 m c2)/\W.cell? (w.heap.size,2)=view/\W.cell? (ad.add (k*44))=(p:Int)) (by kernel_rfl) (wZ.out _ _ _ HId.out) (λhS=>?_);refine GZ 0 ?_;iterate 2
     refine OE (v:=?_) ?_ hS ?_;rotate_left
     ·intro W' lr;go_simp;rfl
     try simp only[Act.put,X8,YF,YE,YD,YA,YB]
    refine mV 2 (λK hK=>?_);go_simp;refine(Hl.out _ HId.b).mono ?_;rintro e w4 ⟨rfl,sY⟩;have tR:=X6 (HId.lR sY);clear sY;refine ky hK (wZ.out _ _ _ tR.out) λhS=>?_;clear hK;refine GZ 3 ?_;iterate 8
     refine OE (v:=?_) ?_ hS ?_;rotate_left
     ·intro W' lr;go_simp;rfl
     try simp only[Act.put,X8,YF,YE,YD,YA,YB]
    refine nk [12] ?_;refine tk hS (h:=?_);refine np ?_;refine mV 11 (λK hK=>?_);go_simp;refine(HIP.out _ tR.b).mono ?_;rintro e w5 ⟨⟨r2,rfl,L6⟩,wE⟩;have pQ:=X6 (tR.lR wE);clear wE;refine ky hK (wZ.out _ _ _ pQ.out) λhS=>?_;clear hK;refine GZ 13 ?_;iterate 2
     refine OE (v:=?_) ?_ hS ?_;rotate_left
     ·intro W' lr;go_simp;rfl
     try simp only[Act.put,X8,YF,YE,YD,YA,YB]
    refine nR ?_;clear hS;generalize ((r2:Int) == (r:Int))=bq;cases bq
    ·go_wp2_with fail;go_roundw;case rel=>exact⟨k+1,ns,by omega,by omega,by omega,by go_num,HM.out,pQ⟩
     case measure=>simp[intOf];omega
    ·go_wp2_with (at_builtin;refine lM (m:=1) rfl _ _ rfl vv pQ.o pQ.b.size rfl [.int .i64 (k:Int)] rfl rfl (by simp[Value.oneCell']) oA (by omega) ?_;intro A6 c6 w6 mF uK oO pa;have BV:=X6 (pQ.app k oO mF);clear mF uK oO pa);go_roundw;case rel=>exact⟨k+1,ns++[k],by omega,by omega,by simp;omega,by go_num,λx hx=>by
      rcases YW.1 hx with h | h
      ·exact HM.out x h
      ·simp only[Y7,ZD,DA]at h;subst h;exact⟨by omega,lN,λ_=>HEB.out⟩,BV⟩
     case measure=>simp[intOf];omega
   ·rw[eb]at Hl;refine wp_region_held_drew (S:=λW=>W.cell? (w.heap.size,0)=some (.slice (some ad) l.length c)/\W.cell? (w.heap.size,1)=some (.slice A2 m c2)/\W.cell? (w.heap.size,2)=view/\W.cell? (ad.add (k*44))=(p:Int)) (by kernel_rfl) (wZ.out _ _ _ HId.out) (λhS=>?_);refine GZ 0 ?_;iterate 2
     refine OE (v:=?_) ?_ hS ?_;rotate_left
     ·intro W' lr;go_simp;rfl
     try simp only[Act.put,X8,YF,YE,YD,YA,YB]
    refine mV 2 (λK hK=>?_);go_simp;refine(Hl.out _ HId.b).mono ?_;rintro e w4 ⟨rfl,sY⟩;have tR:=X6 (HId.lR sY);clear sY;refine ky hK (wZ.out _ _ _ tR.out) λhS=>?_;clear hK;refine nk [3] ?_;refine tk hS (h:=?_);refine np ?_;refine nk [4,5,6,7,8,9,10,11,12,13] ?_;iterate 10
     refine tku hS (h:=?_)
    refine np ?_;refine nk [14] ?_;refine tk hS (h:=?_);refine np ?_;refine nR ?_;clear hS;go_wp2_with fail;go_roundw;case rel=>exact⟨k+1,ns,by omega,by omega,by omega,by go_num,HM.out,tR⟩
    case measure=>simp[intOf];omega
  ·have d0:decide ((k:Int)<(l.length:Int))=false:=X9 (by omega);have pJ:decide (k<l.length)=false:=X9 lN;go_wp2_with fail;go_ret;exact⟨⟨_,ns,rfl,HI.o,by omega,HM.out⟩,HI.b⟩
end
end
section
attribute [local go_sem] lp
section
variable(l:List Nd)(A A2:Option Addr)(c m c2:Nat)(view:Int)(w:World)
theorem Q5{w w':World}{ad:Addr}{n:Nat}(hr:Reads w w.heap.size 44 (some ad) n (lI l))(hn:n=l.length)(i:Nat)(hi:i<l.length)(hb:Below w.heap.size w w'): w'.cell? (ad.block,(ad.add (i*44)).off+1)=some (.int .u8 l[i].s.kind)/\ad.block<w'.heap.size:=by obtain⟨FT,e,pN⟩:=(hr.below hb).nd hn hi;injection e with e;subst e;have h:=(yd pN).2.1;exact⟨h,aA7 _ ⟨ad.block,(ad.add (i*44)).off+1,none⟩ h⟩
theorem Dw(ks:List Nat)(Ak:Option Addr)(ck:Nat)(i:Nat)(hi:i<l.length)(hn:l.length<=65536)(qA:∀x∈ks,x<l.length)(hr:Reads w w.heap.size 44 A l.length (lI l))(hk:Reads w w.heap.size 1 Ak ks.length (nA ks)): Calls prog 71 #[.agg #[.slice A l.length c,.slice A2 m c2,view],.int .i64 (i:Int),.slice Ak ks.length ck] w λe w'=>(∃b,e= .returned (.bool b))/\Below w.heap.size w w':=by
 have wQ:(i:Int)<(l.length:Int):=by omega
 obtain⟨ad,rfl,-⟩:=hr.nd rfl hi;have mA:Hid (Below w.heap.size w (w.alloc (.cells #[.slice (some ad) l.length c,.slice A2 m c2,view] 25))):=X6 bA;have oW:Hid (lq (w.alloc (.cells #[.slice (some ad) l.length c,.slice A2 m c2,view] 25)) w.heap.size 25 #[.slice (some ad) l.length c,.slice A2 m c2,view]):=X6 (lq.new _ _ _);have Mh:=X6 (λW (j:Nat) (hj:j<l.length) (hb:Below w.heap.size w W)=>Q5 l hr rfl j hj hb);have HKR:=X6 (λW (hb:Below w.heap.size w W)=>hk.below hb);have JJ:=X6 qA;clear hr hk qA;go_enter func71,ntmps71;go_upto_region 1 with(fail);generalize w.alloc _=w1 at mA oW⊢;obtain⟨t0,t1,t2⟩:=oW.c3;have tl:=oW.lt;obtain⟨x1,xl⟩:=Mh.out w1 i hi mA.out;obtain⟨kd,Cl⟩:∃x,l[i].s.kind=x:=⟨_,rfl⟩;rw[Cl]at x1;clear Cl;cases e1:(kd == 1)
 ·go_quiet (fail);go_wp2_with fail;go_ret;exact⟨⟨_,rfl⟩,oQ mA.out _⟩
 ·by_cases h0:0<ks.length
  ·have d0:decide ((0:Int)<(ks.length:Int))=true:=YC (by omega);have pJ:decide (0<ks.length)=true:=YC h0;have zD:(0:Int)<(ks.length:Int):=(by omega);obtain⟨ak,rfl,Hj,JX⟩:=(HKR.out w1 mA.out).2 h0;have x2:w1.cell? (ak.add 0)=some (.int .i64 (ks[0]:Int)):=JX 0 _ (by simp[nA,h0]);have hak:ak.block<w1.heap.size:=YK Hj mA.size;have nF:=JJ.out _ (YJ h0);obtain⟨x3,-⟩:=Mh.out w1 _ nF mA.out;obtain⟨k0,hk0e⟩:∃x,ks[0]=x:=⟨_,rfl⟩;obtain⟨kd0,hkd0⟩:∃x,(l[ks[0]]'nF).s.kind=x:=⟨_,rfl⟩;rw[hkd0]at x3;rw[hk0e]at x2 x3 nF;have hkli:(k0:Int)<(l.length:Int):=(by omega);have x2b:w1.cell? ak=(k0:Int):=(by have h:=x2;unfold Addr.add at h;simpa using h);clear JX hk0e hkd0;go_quiet (fail);go_wp2_with fail;go_ret;exact⟨⟨_,rfl⟩,oQ mA.out _⟩
  ·have d0:decide ((0:Int)<(ks.length:Int))=false:=X9 (by omega);have pJ:decide (0<ks.length)=false:=X9 h0;go_quiet (fail);go_wp2_with fail;go_ret;exact⟨⟨_,rfl⟩,oQ mA.out _⟩
end
end
end Go.Proofs.YtjhingednpjogaaGreat
