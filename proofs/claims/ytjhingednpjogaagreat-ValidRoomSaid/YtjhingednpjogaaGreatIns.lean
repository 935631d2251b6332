/- Lemmas for ValidRoom; laid together by a program. -/
import Derived.Test.YtjhingednpjogaaGreatVob
import Derived.Test.YtjhingednpjogaaGreatQp
import Derived.Lib.OwnKind
set_option linter.all false
set_option maxRecDepth 100000
set_option maxHeartbeats 4000000
namespace Go.Proofs.YtjhingednpjogaaGreat
open Go.Proofs.Tryz
section
open Go.RowKit
attribute [local go_sem] lp
theorem Bn(w:World):Below w.heap.size w w.drew:=by have h:=ZN w.heap.size w;exact⟨h.os,h.tape,h.output,h.size,h.block⟩
theorem eqCnV(a1 a2 a3 a4 b1 b2 b3 b4:Int)(w:World):(Op.equalIn 10000 38 (.agg #[a1,a2,a3,a4]) (.agg #[b1,b2,b3,b4])).run prog w= .ok (a1 == b1 && a2 == b2 && a3 == b3 && a4 == b4) w:=by
 have u2:=underlying2;have g2:=Tryz.isAgg2;have z2:=Tryz.sizeOf2;have hS:prog.underlying 38=some (.struct (prog.fieldsOf 38)):=by kernel_rfl
 have hp:prog.stoodInHeld 38=false:=by kernel_rfl
 rw[show(10000:Nat)=9999+1 from rfl,run_equalIn_agg w 9999 38 _ _ hS hp];simp only[Program.fieldsOf,underlying38];go_simp;by_cases h1:a1=b1<;>by_cases h2:a2=b2<;>by_cases h3:a3=b3<;>by_cases h4:a4=b4<;>simp[h1,h2,h3,h4]
theorem U6(op:BinOp)(x y:Operand)(xs ys:Array Value)(w:World):(eqGuard op 38 x y (.agg xs) (.agg ys)).run prog w= .ok () w:=aDD w op _ x y xs ys (by kernel_rfl)
attribute [local go_sem] eqCnV U6 eqUdV Wt
structure sj(ga gN gC gU gH gF gK:Nat)(v uw:Int)(W:World):Prop where
 n:lq W gN 65 (lI vm).toArray
 c:lq W gC 38 #[lx,lx,lx,lx]
 u:lq W gU 40 #[uw,lx,lx]
 h:lq W gH 2 #[lx]
 f:lq W gF 43 frV
 k:lq W gK 51 #[lH]
 a:lq W ga 83 #[.slice gN 1 1,lH,v,.slice gC 1 1,.slice gU 1 1,.slice gH 1 1,.slice gF 1 1,.slice gK 1 1]
section
variable{ga gN gC gU gH gF gK:Nat}{v uw:Int}{w:World}
theorem sj.below{W W':World}(q:sj ga gN gC gU gH gF gK v uw W)(hb:Below W.heap.size W W'):sj ga gN gC gU gH gF gK v uw W':=
 ⟨q.n.below hb q.n.lt,q.c.below hb q.c.lt,q.u.below hb q.u.lt,q.h.below hb q.h.lt,q.f.below hb q.f.lt,q.k.below hb q.k.lt,q.a.below hb q.a.lt⟩
theorem sj.reads{W:World}(q:sj ga gN gC gU gH gF gK v uw W):Reads W W.heap.size 44 (some ⟨gN,0,none⟩) vm.length (lI vm):=Reads.xE q.n rfl
theorem l1V_uv:∀x∈vm,∃Au nu cu,x.s.uv= .slice Au nu cu:=by intro x hx;simp only[vm,Y7,ZD,DA]at hx;subst hx;exact⟨_,_,_,rfl⟩
theorem Ke(q:sj ga gN gC gU gH gF gK v uw w):Calls prog 85 #[.pointer ga,lx] w λe w'=>e= .returned (.slice none 0 0)/\w=w':=by have a7:=q.a.get 7 rfl;have la:=q.a.lt;have k0:=q.k.get 0 rfl;have lk:=q.k.lt;clear q;go_enter func85,ntmps85;go_wp2_with fail;refine ot ?_;go_wp2_with fail;go_ret;exact⟨rfl,rfl⟩
theorem IV(q:sj ga gN gC gU gH gF gK v uw w):Calls prog 42 #[.pointer ga,lx] w λe w'=>e= .returned true/\Below w.heap.size w w':=by
 have HA:Hid (∀W',Below w.heap.size w W'->sj ga gN gC gU gH gF gK v uw W'):=X6 (λW' h=>q.below h);have HGOT:=X6 (λW' (h:Below w.heap.size w W')=>Ke (HA.out W' h));have HNODE:=X6 (λW' (h:Below w.heap.size w W')=>Sn gN v none 0 W' (HA.out W' h).n Reads.none_);have HLA:=X6 q.a.lt;clear q;go_enter func42,ntmps42;go_upto_region 1 with(fail)
 refine mw (λb d u W'=>Below w.heap.size w W'/\(d=true->∃gA,u= .pointer (some ⟨gA,0,none⟩)/\w.heap.size<=gA/\lq W' gA 38 #[lx,lx,lx,lx])) 20 19 5 false false (by kernel_rfl) (by kernel_rfl) (by kernel_rfl) (⟨Bn w,λh=>absurd h (by decide)⟩) ?_;refine Ce [0,1,2,3,4,5,6,7,8,9,10,11,12,13] ?_;iterate 14
  refine tmF (y:=by intro d' u' W' lr;have q:=HA.out _ lr.1;have a0:=q.a.get 0 rfl;have a1:=q.a.get 1 rfl;have a2:=q.a.get 2 rfl;have a4:=q.a.get 4 rfl;have a7:=q.a.get 7 rfl;have la:=q.a.lt;have k0:=q.k.get 0 rfl;have lk:=q.k.lt;have u0:=q.u.get 0 rfl;have u1:=q.u.get 1 rfl;have u2:=q.u.get 2 rfl;have lu:=q.u.lt;clear q;go_simp;rfl) (h:=?_)
 refine Ch ?_;refine lW (i:=14) (v:=_) rfl (by kernel_rfl) (by kernel_rfl) (by kernel_rfl) (λ_ _ _ h=>h) (by rfl) (nO (by rfl) (by kernel_rfl) _ _ ?_ (λd' u' W' lr=>((HGOT.out W' lr.1).mono λe w2 h=>⟨h.1,h.2▸lr⟩))) ?_
 ·intro W';first | rfl | kernel_rfl
 try simp only[Act.put,X8,YF,YE,YD,YA,YB]
 refine lW (i:=15) (v:=_) rfl (by kernel_rfl) (by kernel_rfl) (by kernel_rfl) (λ_ _ _ h=>h) (by rfl) (nO (by rfl) (by kernel_rfl) _ _ ?_ (λd' u' W' lr=>((HNODE.out W' lr.1).mono λe w2 h=>⟨h.1,lr.1.trans (h.2.mono lr.1.size),λhd=>by obtain⟨gA,e1,e2,e3⟩:=lr.2 hd;exact⟨gA,e1,e2,e3.below h.2 e3.lt⟩⟩))) ?_
 ·intro W';first | rfl | kernel_rfl
 try simp only[Act.put,X8,YF,YE,YD,YA,YB]
 refine Ce [16,17] ?_;iterate 2
  refine tmF (y:=by intro d' u' W' lr;have q:=HA.out _ lr.1;have a0:=q.a.get 0 rfl;have a1:=q.a.get 1 rfl;have a2:=q.a.get 2 rfl;have a4:=q.a.get 4 rfl;have a7:=q.a.get 7 rfl;have la:=q.a.lt;have k0:=q.k.get 0 rfl;have lk:=q.k.lt;have u0:=q.u.get 0 rfl;have u1:=q.u.get 1 rfl;have u2:=q.u.get 2 rfl;have lu:=q.u.lt;clear q;go_simp;rfl) (h:=?_)
 refine Ch ?_;refine Ce [18] ?_;refine Pv (y:=by intro b' d' u' W' lr;have q:=HA.out _ lr.1;have a0:=q.a.get 0 rfl;have a1:=q.a.get 1 rfl;have a2:=q.a.get 2 rfl;have a4:=q.a.get 4 rfl;have a7:=q.a.get 7 rfl;have la:=q.a.lt;have k0:=q.k.get 0 rfl;have lk:=q.k.lt;have u0:=q.u.get 0 rfl;have u1:=q.u.get 1 rfl;have u2:=q.u.get 2 rfl;have lu:=q.u.lt;clear q;go_simp;rfl) (h:=?_);refine Ch ?_;refine zN (i:=19) (b:=false) (.cells #[lx,lx,lx,lx] 38) rfl (by kernel_rfl) (by rfl) (by rfl) (by kernel_rfl) ?_ (λu' W' lr=>⟨lr.1.alloc lr.1.size _,λ_=>⟨_,rfl,lr.1.size,lq.new _ _ _⟩⟩) (λgA=>?_)
 ·intro W';first | rfl | kernel_rfl
 try simp only[Act.put,X8,YF,YE,YD,YA,YB]
 refine mE (i:=20) (d:=true) (λW'=>(((W'.setCell ⟨gA,0,none⟩ (.int .i64 0)).setCell ⟨gA,1,none⟩ (.int .i64 0)).setCell ⟨gA,2,none⟩ (.int .i64 0)).setCell ⟨gA,3,none⟩ (.int .i64 0)) rfl (by kernel_rfl) (by rfl) (by rfl) (by kernel_rfl) rfl ?_ (λW' lr=>(by obtain⟨VP,e1,e2,e3⟩:=lr.2 rfl;have e4:gA=VP:=(by injection e1 with e1;injection e1 with e1;injection e1);subst e4;exact⟨(((lr.1.setCell (p:=⟨gA,0,none⟩) e2 _).setCell (p:=⟨gA,1,none⟩) e2 _).setCell (p:=⟨gA,2,none⟩) e2 _).setCell (p:=⟨gA,3,none⟩) e2 _,λ_=>⟨gA,rfl,e2,(((e3.lA 0 _).lA 1 _).lA 2 _).lA 3 _⟩⟩)) ?_
 ·intro W' lr;obtain⟨VP,e1,e2,e3⟩:=lr.2 rfl;have e4:gA=VP:=by injection e1 with e1;injection e1 with e1;injection e1
  subst e4;have z0:=e3.get 0 rfl;have z1:=e3.get 1 rfl;have z2:=e3.get 2 rfl;have z3:=e3.get 3 rfl;have lz:=e3.lt;have f0:=e3.frozen 0;have f1:=e3.frozen 1;have f2:=e3.frozen 2;have f3:=e3.frozen 3;go_simp;try rfl
 try simp only[Act.put,X8,YF,YE,YD,YA,YB]
 refine Ce [21] ?_;refine Pv (y:=by intro b' d' u' W' lr;have q:=HA.out _ lr.1;have a0:=q.a.get 0 rfl;have a1:=q.a.get 1 rfl;have a2:=q.a.get 2 rfl;have a4:=q.a.get 4 rfl;have a7:=q.a.get 7 rfl;have la:=q.a.lt;have k0:=q.k.get 0 rfl;have lk:=q.k.lt;have u0:=q.u.get 0 rfl;have u1:=q.u.get 1 rfl;have u2:=q.u.get 2 rfl;have lu:=q.u.lt;clear q;go_simp;rfl) (h:=?_);refine Ch ?_;refine F6 (λw3 hS=>?_);obtain⟨VP,e1,e2,e3⟩:=hS.2 rfl;have e4:gA=VP:=by injection e1 with e1;injection e1 with e1;injection e1
 subst e4;have oK:=X6 hS.1;have z0:=e3.get 0 rfl;have z1:=e3.get 1 rfl;have z2:=e3.get 2 rfl;have z3:=e3.get 3 rfl;have lz:=e3.lt;have q:=HA.out _ hS.1;have a3:=q.a.get 3 rfl;have la:=q.a.lt;have c0:=q.c.get 0 rfl;have c1:=q.c.get 1 rfl;have c2:=q.c.get 2 rfl;have c3:=q.c.get 3 rfl;have lc:=q.c.lt;clear q hS e3 e2;go_upto_region 2 with(fail)
 go_quiet (fail);go_wp2_with fail;go_ret;exact⟨rfl,nU oK.out _⟩
theorem usedVV(hv:Kh (oc (ni 1 0) v)=(v,0,0))(ho:Kg (oc (ni 1 0) v)=false):ou (oc (ni 1 0) v)= .tuple #[.agg #[v,lx,lx],.bool false]:=by
 unfold Kh at hv;injection hv with a1 a2
 injection a2 with a2 a3;unfold ou;rw[a1,a2,a3,ho]
theorem Lb(hv:ou (oc (ni 1 0) v)= .tuple #[.agg #[v,lx,lx],.bool false])(hc:CB v){W:World}(hn:lq W gN 65 (lI vm).toArray): Calls prog 86 #[.agg #[.slice gN 1 1,lH,v]] W λe w'=>e= .returned (.tuple #[.agg #[v,lx,lx],false])/\Below W.heap.size W w':=by have h:=NZ vm (by decide) (by decide) (some ⟨gN,0,none⟩) none 1 0 0 v W (Reads.xE hn rfl) (styK_w 1 0) hc;rw[show vm[0].s=ni 1 0 from rfl,hv]at h;exact h
theorem MX(hc:CB uw){W:World}(hn:lq W gN 65 (lI vm).toArray)(Ag:Option Addr)(cg:Nat)(hg:Reads W W.heap.size 4 Ag 0 (ly [])): Calls prog 87 #[.agg #[.slice gN 1 1,lH,v],.int .i64 0,.agg #[uw,lx,lx],.slice none 0 0,.slice Ag 0 cg] W λe w'=>(∃gu gb,e= .returned (.tuple #[.slice (some ⟨gu,0,none⟩) 0 0,.slice (some ⟨gb,0,none⟩) 0 0]))/\Below W.heap.size W w':=by have h:=SG vm 0 (by decide) (by decide) (some ⟨gN,0,none⟩) none none Ag 1 0 0 0 cg v uw 0 0 [] [] W (Reads.xE hn rfl) l1V_uv 1 (by decide) rfl Reads.none_ (by simp) (by simp) hg hc (by simp) (by simp);exact h.mono λe w' ⟨⟨gu,gb,he,_⟩,hb⟩=>⟨⟨gu,gb,he⟩,hb⟩
theorem NX(hv:ou (oc (ni 1 0) v)= .tuple #[.agg #[v,lx,lx],.bool false])(hc:CB v)(Et:CB uw)(q:sj ga gN gC gU gH gF gK v uw w):Calls prog 43 #[.pointer ga,lx] w λe w'=>e= .returned (.bool (v == uw))/\Below w.heap.size w w':=by
 have HA:Hid (∀W',Below w.heap.size w W'->sj ga gN gC gU gH gF gK v uw W'):=X6 (λW' h=>q.below h);have HGOT:=X6 (λW' (h:Below w.heap.size w W')=>Ke (HA.out W' h));have HFIR:=X6 (Lb hv hc q.n);have HKIDS:=X6 (λW' (h:Below w.heap.size w W')=>MX (v:=v) Et (HA.out W' h).n none 0 Reads.none_);have a0:=q.a.get 0 rfl;have a1:=q.a.get 1 rfl;have a2:=q.a.get 2 rfl;have la:=q.a.lt;clear q hv hc Et;go_enter func43,ntmps43;go_wp2_with fail;refine HFIR.mono ?_;rintro e w1 ⟨rfl,nY⟩;have mA:=X6 nY;clear nY a0 a1 a2 la;go_upto_region 3 with(fail)
 obtain⟨w2,ph⟩:∃W,W=w1.alloc (.cells #[v,lx,lx] 40):=⟨_,rfl⟩;have nx:Hid (Below w.heap.size w w2):=X6 (by rw[ph];exact mA.alloc mA.size _);have b5:lq w2 w1.heap.size 40 #[v,lx,lx]:=by rw[ph];exact lq.new _ _ _
 have z0:=b5.get 0 rfl;have z1:=b5.get 1 rfl;have z2:=b5.get 2 rfl;have zl:=b5.lt;rw[<-ph];have q:=HA.out w2 nx.out;have a4:=q.a.get 4 rfl;have la:=q.a.lt;have u0:=q.u.get 0 rfl;have u1:=q.u.get 1 rfl;have u2:=q.u.get 2 rfl;have lu:=q.u.lt;clear q ph b5;by_cases Xl:v=uw;rotate_left
 ·have e1:(v == uw)=false:=ZO.2 Xl;go_quiet (fail);go_wp2_with fail;go_ret;exact⟨by rw[e1]<;>rfl,nU nx.out _⟩
 have e1:(v == uw)=true:=ZR.2 Xl;clear Xl;go_quiet (fail);have oK:=X6 (nU nx.out nq);obtain⟨w3,zB⟩:∃W,W=w2.drewN nq:=⟨_,rfl⟩;rw[<-zB]at oK⊢;clear zB a4 la u0 u1 u2 lu z0 z1 z2 zl;have q:=HA.out w3 oK.out;have a7:=q.a.get 7 rfl;have la:=q.a.lt;have k0:=q.k.get 0 rfl;have lk:=q.k.lt;clear q;go_upto_region 6 with(fail)
 have E0:Below w3.heap.size w3 w3.drew:=(ZN _ _).drew;refine wp_region_held_drew (S:=λW=>Below w3.heap.size w3 W) (by kernel_rfl) E0 (λhS=>?_);refine nk [0,1,2,3,4,5,6,7,8,9,10,11,12,13,14,15] ?_;iterate 16
  refine tk hS (y:=by intro W' lr;have q:=HA.out _ (oK.trans (lr.mono oK.size));have a0:=q.a.get 0 rfl;have a1:=q.a.get 1 rfl;have a2:=q.a.get 2 rfl;have a4:=q.a.get 4 rfl;have la:=q.a.lt;have u0:=q.u.get 0 rfl;have u1:=q.u.get 1 rfl;have u2:=q.u.get 2 rfl;have lu:=q.u.lt;clear q;go_simp;rfl) (h:=?_)
 refine np ?_;refine mV 16 (λK hK=>?_);go_simp;refine(HGOT.out _ (oK.trans (hS.mono oK.size))).mono ?_;rintro e w8 ⟨rfl,rfl⟩;refine ky hK hS λhS=>?_;clear hK;refine mV 17 (λK hK=>?_);go_simp;refine(HKIDS.out _ (oK.trans (hS.mono oK.size))).mono ?_;rintro e w9 ⟨⟨gu,gb,rfl⟩,uE⟩;have hS9:Below w3.heap.size w3 w9:=hS.trans (uE.mono hS.size);clear uE;refine ky hK hS9 λhS=>?_;clear hK;refine nk [18,19,20,21,22] ?_;iterate 5
  refine tk hS (y:=by intro W' lr;have q:=HA.out _ (oK.trans (lr.mono oK.size));have a0:=q.a.get 0 rfl;have a1:=q.a.get 1 rfl;have a2:=q.a.get 2 rfl;have a4:=q.a.get 4 rfl;have la:=q.a.lt;have u0:=q.u.get 0 rfl;have u1:=q.u.get 1 rfl;have u2:=q.u.get 2 rfl;have lu:=q.u.lt;clear q;go_simp;rfl) (h:=?_)
 refine np ?_;refine nR ?_;have B7:=X6 (oK.trans (hS.mono oK.size));clear hS a7 la k0 lk;go_wp2_with fail;refine(Hm _ _ _).mono ?_;rintro e sy ⟨rfl,rfl⟩;go_wp2_with fail;refine ot ?_;go_wp2_with fail;go_ret;exact⟨by rw[e1]<;>rfl,B7.out⟩
end
end
section
section
variable(n:Nat)(P:Nat->Nat)(K3 rt:Nat->Bool)
def Vk(i:Nat):Nat->Nat->Bool
 | 0,_=>false
 | f+1,j=>if j=0 then false else P j == i || Vk i f (P j)
def isAnc(i j:Nat):Bool:=Vk P i j j
def JS:Nat->Nat->Nat->Bool->Option (Nat×List Nat)
 | 0,_,_,_=>none
 | f+1,i,k,b=>
  if k<n/\P k=i then
   match JS f k (k+1) (b && !K3 k && !rt k)with
   | none=>none
   | some (e,bs)=>
    match JS f i e b with
    | none=>none
    | some (e2,bs2)=>some (e2,(if b && !K3 k then k::bs else bs)++bs2)
  else some (k,[])
end
section
variable{n:Nat}{P:Nat->Nat}{K3 rt:Nat->Bool}(hP:∀j,0<j->j<n->P j<j)
include hP
variable(hO:∀j,0<j->j<n->P j=j-1\/isAnc P (P j) (j-1)=true)
include hO
end
end
section
open Go.RowKit
attribute [local go_sem] lp
theorem FY{P:Program}{w:World}{a:Addr}{m:Mode}(F:Fn)(b l:Array Value):(store a (.func F b l) m).run P w=stored P w a (.func F b l) m:=run_store P w a _ m rfl
attribute [local go_sem] FY
theorem N6{w:World}{base PS:Nat}{e:TypeId}{size n:Nat}{v:Value}{xs:List Value}(h:w.ownsRow base e size v n xs)(hb:PS<=base):w.ownsRow PS e size v n xs:=⟨h.1,h.2.elim .inl (λ⟨g,cap,cur,a,b,r⟩=> .inr ⟨g,cap,cur,a,YL hb b,r⟩)⟩
def Pl(l:List Nd)(j:Nat):Nat:=(((l[j]?).map λx:Nd=>x.parent).getD 0).toNat
def Sq(l:List Nd)(j:Nat):Bool:=((l[j]?).map λx:Nd=>x.s.kind == 3).getD false
theorem OD{n:Nat}{P:Nat->Nat}{K3 rt:Nat->Bool}:∀(f i k:Nat) (b:Bool) (e:Nat) (bs:List Nat),JS n P K3 rt f i k b=some (e,bs)->k<=e/\bs.length<=e-k:=by
 intro f;induction f with
 | zero=>intro i k b e bs h;simp[JS]at h
 | succ f ih=>
  intro i k b e bs h;rw[JS]at h
  split at h
  ·split at h
   ·cases h
   ·rename_i e1 b1 h1
    split at h
    ·cases h
    ·rename_i e2 b2 h2;injection h with h
     injection h with h3 h4;have g1:=ih _ _ _ _ _ h1;have g2:=ih _ _ _ _ _ h2;subst h3;subst h4;refine⟨by omega,?_⟩;rw[YM];have:(if(b && !K3 k)=true then k::b1 else b1).length<=b1.length+1:=(by split<;>simp);omega
  ·injection h with h;injection h with h3 h4;subst h3;subst h4;simp
structure N5(w:World)(bt bb:Nat)(l:List Nd)(A A2:Option Addr)(c m c2:Nat)(view:Int)(B:List Nat)(Av:Option Addr)(cv:Nat)(W:World):Prop where
 t:lq W bt 25 #[.slice A l.length c,.slice A2 m c2,view]
 b:lq W bb 51 #[.slice Av B.length cv]
 d:lq W (bb+1) 170 #[.func (.func 98) #[] #[.pointer bt,.pointer bb,.pointer (some ⟨bb+1,0,none⟩)]]
 o:W.ownsRow (bb+1+1) 3 1 (.slice Av B.length cv) B.length (B.map λ(i:Nat)=>Value.int .i64 i)
 l:Below w.heap.size w W
 lt:bt<bb/\w.heap.size<=bt
theorem N5.below{w:World}{bt bb:Nat}{l:List Nd}{A A2:Option Addr}{c m c2:Nat}{view:Int}{B:List Nat}{Av:Option Addr}{cv:Nat}{W W':World}(h:N5 w bt bb l A A2 c m c2 view B Av cv W)(hb:Below W.heap.size W W'):N5 w bt bb l A A2 c m c2 view B Av cv W':=
 ⟨h.t.below hb h.t.lt,h.b.below hb h.b.lt,h.d.below hb h.d.lt,lG h.o hb,h.l.trans (hb.mono h.l.size),h.lt⟩
theorem N5.app{w:World}{bt bb:Nat}{l:List Nd}{A A2:Option Addr}{c m c2:Nat}{view:Int}{B:List Nat}{Av:Option Addr}{cv:Nat}{W W':World}(h:N5 w bt bb l A A2 c m c2 view B Av cv W){A':Option Addr}{c':Nat}(k:Nat)(lV:W'.ownsRow (bb+1+1) 3 1 (.slice A' (B.length+1) c') (B.length+1) ((B.map λ(i:Nat)=>Value.int .i64 i)++[.int .i64 k]))(hg:W.grownBy W' (Value.slice Av B.length cv).ownBlock) (hB:∀B' w0,B'<=bb+1+1->Below B' w0 W->Below B' w0 W'):N5 w bt bb l A A2 c m c2 view (B++[k]) A' c' (W'.setCell (bb,0) (.slice A' (B.length+1) c')):=by
 have e1:(B++[k]).length=B.length+1:=by simp
 have lN:=h.lt;refine⟨(h.t.grown hg (pg h.o (by omega))).lQ (by simp;omega) _,?_,(h.d.grown hg (pg h.o (by omega))).lQ (by simp) _,?_,(hB _ _ (by omega) h.l).setCell (p:=(bb,0)) (by simp;omega) _,lN⟩
 ·rw[e1];exact(h.b.grown hg (pg h.o (by omega))).lA 0 _
 ·rw[e1,ZJ];exact ZT lV (a:=⟨bb,0,none⟩) (by show bb<bb+1+1;omega) _
section
variable(w:World)(bt bb:Nat)(l:List Nd)(A A2:Option Addr)(c m c2:Nat)(view:Int)
theorem Qv(hn:l.length<=65536)(hr:Reads w w.heap.size 44 A l.length (lI l))(Cz:∀i (h:i<l.length),0<i->0<=l[i].parent):∀(f i:Nat) (b:Bool) (B:List Nat) (Av:Option Addr) (cv:Nat) (W:World) (e:Nat) (bs:List Nat),N5 w bt bb l A A2 c m c2 view B Av cv W->i<l.length->B.length<=i->JS l.length (Pl l) (Sq l) (mZ l) f i (i+1) b=some (e,bs)-> Calls prog 98 #[.int .i64 i,.bool b,.pointer bt,.pointer bb,.pointer (some ⟨bb+1,0,none⟩)] W λen w'=>en= .returned e/\∃Av' cv',N5 w bt bb l A A2 c m c2 view (B++bs) Av' cv' w':=by
 intro f;induction f using Nat.strongRecOn with
 | _ f IH=>
 intro i b B Av cv W e bs h hi hBi he;have HI:=X6 h;have R3:=X6 IH;have HE:=X6 he;have C2:IntKind.i64.wrap ((i:Int)+1)=(i:Int)+1:=YG _ ⟨by omega,by omega⟩;obtain⟨t0,t1,t2⟩:=h.t.c3;have HR:=X6 hr;have HP:=X6 Cz;clear h IH he hr Cz;go_enter func98,ntmps98;go_wp2_with fail;go_loopw [8] (λq wr=>∃(k f':Nat) (dn br:List Nat),i<k/\JS l.length (Pl l) (Sq l) (mZ l) f' i k b=some (e,br)/\f'<=f/\dn.length+(i+1)<=k/\q= .int .i64 (k:Int)/\Hid (dn++br=bs/\∃Av cv,N5 w bt bb l A A2 c m c2 view (B++dn) Av cv wr)) (λq _=>l.length+1-(intOf q).toNat);case atStart=>exact⟨i+1,f,[],bs,by omega,HE.out,by omega,by simp,by go_num,X6 ⟨rfl,_,_,by simpa using HI.out⟩⟩
 case round=>
  obtain⟨k,f1,dn,br,hik,nR,hff,hdl,rfl,HH⟩:=hrel;obtain⟨R6,Ak,ck,hik2⟩:=HH.out;have Fq:=X6 R6;clear t0 t1 t2 R6;obtain⟨t0,t1,t2⟩:=hik2.t.c3;obtain⟨BK,hBK⟩:∃BK,BK=B++dn:=⟨_,rfl⟩;rw[<-hBK]at hik2;have hBKl:BK.length+1<=k:=by rw[hBK,YM];omega
  have Hl:=X6 hBK;have HJ:=X6 hik2;clear hik2 HH hBK;obtain⟨f',rfl⟩:∃f',f1=f'+1:=by
   cases f1 with
   | zero=>simp[JS]at nR
   | succ f'=>exact⟨f',rfl⟩
  rw[JS]at nR;by_cases hc:k<l.length/\Pl l k=i
  ·rw[YP hc]at nR;obtain⟨nF,hpk⟩:=hc;have d1:decide ((k:Int)<(l.length:Int))=true:=YC (by omega);have d1':decide (k<l.length)=true:=YC nF;obtain⟨ad,hA,pN⟩:=(HR.below HJ.l).nd rfl nF;obtain⟨y0,y1,-,-⟩:=yd pN;have hb:ad.block<w.heap.size:=(by have:=pN.lt;rwa[lp]at this);have R9:=HP.out k nF (by omega);have hpe:l[k].parent=(i:Int):=(by unfold Pl at hpk;rw[YH nF]at hpk;simp at hpk;omega);have hk3:Sq l k=(l[k].s.kind == 3):=(by unfold Sq;rw[YH nF];rfl);rw[hpe]at y0;obtain⟨kd,Cl⟩:∃x,l[k].s.kind=x:=⟨_,rfl⟩;rw[Cl]at y1 hk3;rw[hk3]at nR;have zH:(k:Int)<(l.length:Int):=(by omega);have hBK9:BK.length+1<=4294967296:=(by omega);obtain⟨rv,hrv⟩:∃x,mZ l k=x:=⟨_,rfl⟩;have En:=X6 (λW' (hb:Below w.heap.size w W')=>Bk l A A2 c m c2 view W' k nF hn ((HR.below hb).more hb.size));rw[hrv]at En nR;subst hA;clear pN hpe hpk R9 Cl hrv;have cb:=HJ.b.c1;have hzb:bb<wr.heap.size:=HJ.b.lt;have Cu:Hid (bb+1+1<=wr.heap.size):=X6 (by have:=HJ.d.lt;omega);have KA:Hid (∀W' {B Av cv},N5 w bt bb l (some ad) A2 c m c2 view B Av cv W'->(λW'=>W'.cell? (bb+1,0)=some (.func (.func 98) #[] #[.pointer bt,.pointer bb,.pointer (some ⟨bb+1,0,none⟩)])/\W'.cell? (bt,0)=some (.slice (some ad) l.length c)/\W'.cell? (bt,1)=some (.slice A2 m c2)/\W'.cell? (bt,2)=some (.int .i64 view)) W'):=X6 (λW' {B Av cv} h=>⟨h.d.c1,h.t.c3⟩);cases F9:(b && !(kd == 3))
   ·as_aux_lemma=>
    rw[F9,aDI]at nR;obtain⟨e1,b1,e2,b2,h1,h2,h3,h4⟩:∃e1 b1 e2 b2,JS l.length (Pl l) (Sq l) (mZ l) f' k (k+1) false=some (e1,b1)/\JS l.length (Pl l) (Sq l) (mZ l) f' i e1 b=some (e2,b2)/\e2=e/\b1++b2=br:=by
     cases g1:JS l.length (Pl l) (Sq l) (mZ l) f' k (k+1) false with
     | none=>rw[g1]at nR;cases nR
     | some p=>
      obtain⟨e1,b1⟩:=p;rw[g1]at nR;simp only[]at nR;cases g2:JS l.length (Pl l) (Sq l) (mZ l) f' i e1 b with
      | none=>rw[g2]at nR;cases nR
      | some p=>obtain⟨e2,b2⟩:=p;rw[g2]at nR;injection nR with nR;injection nR with h3 h4;exact⟨e1,b1,e2,b2,rfl,g2,h3,by simpa using h4⟩
    subst h3;have zA:=X6 (OD _ _ _ _ _ _ h1);have XO:=X6 h2;have rH:=X6 h4;have LX:=X6 (λW' Av cv (h:N5 w bt bb l (some ad) A2 c m c2 view BK Av cv W')=>R3.out f' (by omega) k false BK Av cv W' e1 b1 h nF (by omega) h1);have hle1:=zA.1;clear nR h1 h2 h4 hk3;cases b
    ·skip
     go_upto_region 6 with(fail);clear cb hzb t0 t1 t2 y0 y1;refine wp_region_held_drew (S:=λW'=>W'.cell? (bb+1,0)=some (.func (.func 98) #[] #[.pointer bt,.pointer bb,.pointer (some ⟨bb+1,0,none⟩)])/\W'.cell? (bt,0)=some (.slice (some ad) l.length c)/\W'.cell? (bt,1)=some (.slice A2 m c2)/\W'.cell? (bt,2)=view) (by kernel_rfl) (KA.out _ (HJ.below (ZN _ _).drew)) (λhS=>?_);refine nk [0,1,2,3] ?_;iterate 4
      refine tk hS (h:=?_)
     refine np ?_;refine nk [4,5,6,7] ?_;iterate 4
      refine tku hS (h:=?_)
     refine np ?_;have BV:=X6 (HJ.below (ZN _ _).drew);refine nk [8] ?_;refine tk hS (h:=?_);refine np ?_;refine mV 9 (λK hK=>?_);go_simp;refine(LX.out _ _ _ BV.out).mono ?_;rintro e w7 ⟨rfl,Av7,cv7,hi7⟩;have zC:=X6 hi7;clear hi7;refine ky hK (KA.out _ zC.out) λhS=>?_;clear hK;refine nk [10] ?_;refine tk hS (h:=?_);refine np ?_;refine nR ?_;clear hS;go_wp2_with fail;go_roundw;case rel=>exact⟨e1,f',dn++b1,b2,by omega,XO.out,by omega,by have:=zA.2;rw[YM];omega,by go_num,X6 ⟨by rw[Yc,rH.out];exact Fq.out,_,_,by have h:=zC.out;rw[Hl.out]at h;simpa using h⟩⟩
     case measure=>simp[intOf];have:=zA.1;omega
    ·have e3:(kd == 3)=true:=(by simpa using F9);have e3n:(kd != 3)=false:=(by rw[bne,e3];rfl);go_upto_region 6 with(fail)
     clear cb hzb t0 t1 t2 y0 y1;refine wp_region_held_drew (S:=λW'=>W'.cell? (bb+1,0)=some (.func (.func 98) #[] #[.pointer bt,.pointer bb,.pointer (some ⟨bb+1,0,none⟩)])/\W'.cell? (bt,0)=some (.slice (some ad) l.length c)/\W'.cell? (bt,1)=some (.slice A2 m c2)/\W'.cell? (bt,2)=view) (by kernel_rfl) (KA.out _ (HJ.below (ZN _ _).drew)) (λhS=>?_);refine nk [0,1,2,3] ?_;iterate 4
      refine tk hS (h:=?_)
     refine np ?_;refine nk [4,5,6,7] ?_;iterate 4
      refine tku hS (h:=?_)
     refine np ?_;have BV:=X6 (HJ.below (ZN _ _).drew);refine nk [8] ?_;refine tk hS (h:=?_);refine np ?_;refine mV 9 (λK hK=>?_);go_simp;refine(LX.out _ _ _ BV.out).mono ?_;rintro e w7 ⟨rfl,Av7,cv7,hi7⟩;have zC:=X6 hi7;clear hi7;refine ky hK (KA.out _ zC.out) λhS=>?_;clear hK;refine nk [10] ?_;refine tk hS (h:=?_);refine np ?_;refine nR ?_;clear hS;go_wp2_with fail;go_roundw;case rel=>exact⟨e1,f',dn++b1,b2,by omega,XO.out,by omega,by have:=zA.2;rw[YM];omega,by go_num,X6 ⟨by rw[Yc,rH.out];exact Fq.out,_,_,by have h:=zC.out;rw[Hl.out]at h;simpa using h⟩⟩
     case measure=>simp[intOf];have:=zA.1;omega
   ·as_aux_lemma=>
    rw[F9,aCK]at nR;obtain⟨e1,b1,e2,b2,h1,h2,h3,h4⟩:∃e1 b1 e2 b2,JS l.length (Pl l) (Sq l) (mZ l) f' k (k+1) (!rv)=some (e1,b1)/\JS l.length (Pl l) (Sq l) (mZ l) f' i e1 b=some (e2,b2)/\e2=e/\(k::b1)++b2=br:=by
     cases g1:JS l.length (Pl l) (Sq l) (mZ l) f' k (k+1) (!rv)with
     | none=>rw[g1]at nR;cases nR
     | some p=>
      obtain⟨e1,b1⟩:=p;rw[g1]at nR;simp only[]at nR;cases g2:JS l.length (Pl l) (Sq l) (mZ l) f' i e1 b with
      | none=>rw[g2]at nR;cases nR
      | some p=>obtain⟨e2,b2⟩:=p;rw[g2]at nR;injection nR with nR;injection nR with h3 h4;exact⟨e1,b1,e2,b2,rfl,g2,h3,by simpa using h4⟩
    subst h3;have zA:=X6 (OD _ _ _ _ _ _ h1);have XO:=X6 h2;have rH:=X6 h4;have LX:=X6 (λW' Av cv (h:N5 w bt bb l (some ad) A2 c m c2 view (BK++[k]) Av cv W')=>R3.out f' (by omega) k (!rv) (BK++[k]) Av cv W' e1 b1 h nF (by rw[YM];simp;omega) h1);have hle1:=zA.1;have hbt:b=true/\(kd == 3)=false:=(by cases b<;>simp_all);obtain⟨rfl,e3⟩:=hbt;have e3n:(kd != 3)=true:=(by rw[bne,e3];rfl);clear nR h1 h2 h4 hk3 F9;go_upto_region 6 with(at_builtin;refine tN (m:=1) rfl _ _ rfl vv HJ.o Cu.out rfl [.int .i64 (k:Int)] rfl rfl rfl (by simp[Value.oneCell']) hBK9 (by omega) ?_;intro A' c' w4 lV hB hg qM;have HIo:=X6 (HJ.app k lV hg (λB' w0 h1 h2=>hB B' w0 h1 h2));have vO:=HJ.b.grown hg (pg HJ.o (by omega));have Yy:=vO.c1;have fb':=vO.frozen 0;clear lV hB hg qM vO)
    clear Yy fb' cb hzb;generalize World.setCell w4 _ _=w5 at HIo⊢;have pQ:=HIo;have HE6:=X6 (KA.out _ (pQ.below (ZN _ _).drew));clear t0 t1 t2 y0 y1;go_wp2_with fail;refine wp_region_held_drew (S:=λW'=>W'.cell? (bb+1,0)=some (.func (.func 98) #[] #[.pointer bt,.pointer bb,.pointer (some ⟨bb+1,0,none⟩)])/\W'.cell? (bt,0)=some (.slice (some ad) l.length c)/\W'.cell? (bt,1)=some (.slice A2 m c2)/\W'.cell? (bt,2)=view) (by kernel_rfl) HE6.out (λhS=>?_);refine nk [0,1,2,3,4,5] ?_;iterate 6
     refine tk hS (h:=?_)
    refine np ?_;refine mV 6 (λK hK=>?_);go_simp;refine(En.out _ (pQ.below (ZN _ _).drew).l).mono ?_;rintro e w6 ⟨rfl,VI⟩;have BV:=X6 (pQ.below ((ZN _ _).drew.trans (VI.mono (X7 _))));clear VI;refine ky hK (KA.out _ BV.out) λhS=>?_;clear hK;refine nk [7,8] ?_;iterate 2
     refine tk hS (h:=?_)
    refine np ?_;refine mV 9 (λK hK=>?_);go_simp;refine(LX.out _ _ _ BV.out).mono ?_;rintro e w7 ⟨rfl,Av7,cv7,hi7⟩;have zC:=X6 hi7;clear hi7;refine ky hK (KA.out _ zC.out) λhS=>?_;clear hK;refine nk [10] ?_;refine tk hS (h:=?_);refine np ?_;refine nR ?_;clear hS;go_wp2_with fail;go_roundw;case rel=>exact⟨e1,f',dn++(k::b1),b2,by omega,XO.out,by omega,by have:=zA.2;rw[YM,ZA];omega,by go_num,X6 ⟨by rw[Yc,rH.out];exact Fq.out,_,_,by have h:=zC.out;rw[Hl.out]at h;simpa using h⟩⟩
    case measure=>simp[intOf];have:=zA.1;omega
  ·rw[YO hc]at nR;injection nR with nR
   injection nR with h3 h4;have HEE:Hid (k=e/\br=[]):=X6 ⟨h3,h4.symm⟩;clear h3 h4;by_cases nF:k<l.length
   ·as_aux_lemma=>
    have d1:decide ((k:Int)<(l.length:Int))=true:=YC (by omega);have d1':decide (k<l.length)=true:=YC nF;obtain⟨ad,hA,pN⟩:=(HR.below HJ.l).nd rfl nF;obtain⟨y0,-,-,-⟩:=yd pN;have hb:ad.block<w.heap.size:=(by have:=pN.lt;rwa[lp]at this);obtain⟨P,hP⟩:∃P,P=l[k].parent:=⟨_,rfl⟩;have R9:=HP.out k nF (by omega);have d2:(P == (i:Int))=false:=(by refine ZO.2 λe=>hc ⟨nF,?_⟩;unfold Pl;rw[YH nF];simp only[aCN,aC6];rw[<-hP,e];simp);rw[<-hP]at y0;have zH:(k:Int)<(l.length:Int):=(by omega);subst hA;clear pN hP hc R9;go_wp2_with fail;go_ret;exact⟨by rw[HEE.1];rfl,_,_,by have h:=Fq.out;rw[HEE.2,aAL]at h;rw[<-h,<-Hl.out];exact HJ.out⟩
   ·as_aux_lemma=>
    have d1:decide ((k:Int)<(l.length:Int))=false:=X9 (by omega);have d1':decide (k<l.length)=false:=X9 nF;go_wp2_with fail;go_ret;exact⟨by rw[HEE.1];rfl,_,_,by have h:=Fq.out;rw[HEE.2,aAL]at h;rw[<-h,<-Hl.out];exact HJ.out⟩
theorem LD(r:Nat)(hl:r<l.length)(hn:l.length<=65536)(hr:Reads w w.heap.size 44 A l.length (lI l))(Cz:∀i (h:i<l.length),0<i->0<=l[i].parent)(RU:mZ l r=true)(f e:Nat)(bs:List Nat)(he:JS l.length (Pl l) (Sq l) (mZ l) f r (r+1) true=some (e,bs)): Calls prog 50 #[.agg #[.slice A l.length c,.slice A2 m c2,view],.int .i64 r] w λen w'=>∃Av cv,en= .returned (.slice Av bs.length cv)/\w'.ownsRow w.heap.size 3 1 (.slice Av bs.length cv) bs.length (bs.map λ(i:Nat)=>Value.int .i64 i)/\Below w.heap.size w w':=by
 have HD:=X6 (λbb Av cv W (h:N5 w w.heap.size bb l A A2 c m c2 view [] Av cv W)=>Qv w w.heap.size bb l A A2 c m c2 view hn hr Cz f r true [] Av cv W e bs h hl (by simp) he);have En:=X6 (λW' (hb:Below w.heap.size w W')=>Bk l A A2 c m c2 view W' r hl hn ((hr.below hb).more hb.size));rw[RU]at En;clear hr Cz he RU;go_enter func50,ntmps50;have HT0:Hid (lq (w.alloc (.cells #[.slice A l.length c,.slice A2 m c2,view] 25)) w.heap.size 25 #[.slice A l.length c,.slice A2 m c2,view]):=X6 (lq.new _ _ _);have q1:=X6 (En.out (w.alloc (.cells #[.slice A l.length c,.slice A2 m c2,view] 25)) bA);go_upto_region 3 with(go_at_call 32;refine q1.out.mono ?_;rintro e w1 ⟨rfl,nY⟩;have mA:=X6 nY;clear nY)
 have oW:Hid (lq w1 w.heap.size 25 #[.slice A l.length c,.slice A2 m c2,view]):=X6 (HT0.below mA.out (by simp));have zA:Hid (Below w.heap.size w w1):=X6 (bA.trans (mA.mono (by simp)));have Ie:Hid (w.heap.size<w1.heap.size):=X6 (oW.lt);go_upto_region 6 with(fail)
 obtain⟨w2,ph⟩:∃w2,w2=(w1.alloc (.cells #[lH] 51)).alloc (.cells #[.func (.func 98) #[] #[.pointer w.heap.size,.pointer w1.heap.size,.pointer (some ⟨w1.heap.size+1,0,none⟩)]] 170):=⟨_,rfl⟩;have qI:Hid (N5 w w.heap.size w1.heap.size l A A2 c m c2 view [] none 0 w2):=X6 (by rw[ph];exact⟨(oW.alloc _).alloc _,(lq.new _ _ _).alloc _,lq.at_ _ _ _ (by simp),⟨by simp,.inl ⟨rfl,rfl⟩⟩,(zA.alloc zA.size _).alloc (by have:=zA.size;simp;omega) _,Ie.out,X7 _⟩);rw[<-ph];have q2:=X6 (HD.out _ _ _ _ qI.out);have d0:=qI.d.c1;clear ph oW zA HT0 mA q1;go_upto_region 7 with(go_at_call 98;refine q2.out.mono ?_;rintro e w3 ⟨rfl,Av,cv,hi3⟩;have wI:Hid (N5 w w.heap.size w1.heap.size l A A2 c m c2 view bs Av cv w3):=X6 (by simpa using hi3);clear hi3);have b0:=wI.b.c1;go_wp2_with fail;go_ret;have ho:=wI.o;exact⟨Av,cv,rfl,N6 ho (by have:=Ie.out;omega),wI.l⟩
end
end
end Go.Proofs.YtjhingednpjogaaGreat
