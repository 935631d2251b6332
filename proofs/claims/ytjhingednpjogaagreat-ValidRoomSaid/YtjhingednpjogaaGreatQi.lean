/- Lemmas for ValidRoom; laid together by a program. -/
import Derived.Test.YtjhingednpjogaaGreatQf
import Derived.Test.YtjhingednpjogaaGreatRext
set_option linter.all false
set_option maxRecDepth 100000
set_option maxHeartbeats 4000000
namespace Go.Proofs.YtjhingednpjogaaGreat
open Go.Proofs.Tryz
open Go.RowKit
attribute [local go_sem] lp
theorem adv_nnQ{t:List Int}(h:∀x∈t,0<=x)(u:Int):0<=adv t u:=by
 unfold adv;rcases Z6 u.toNat t.length with hl | hl
 ·rw[YH hl];exact h _ (YJ hl)
 ·rw[ZG hl];simp
theorem CD(t l:List Int)(ht:∀x∈t,0<=x)(pre:List Sp):∀c:List Wd×Bool,(∀x∈c.1,0<=x.w)->∀x∈(pre.foldl (r6 t l) c).1,0<=x.w:=by
 induction pre with
 | nil=>intro c hc;exact hc
 | cons s pre ih=>
  intro c hc;rw[aB0];refine ih _ (λx hx=>?_);simp only[r6]at hx;rcases YW.1 hx with h | h
  ·exact hc x h
  ·simp only[Y7,ZD,DA]at h;subst h;refine AN (sum_nn λy hy=>?_);simp only[oC,Z7]at hy;obtain⟨u,_,rfl⟩:=hy;exact adv_nnQ ht u
theorem Zm(l:List Nd)(adv ks:List Int)(ha:∀x∈adv,0<=x):∀x∈(lP l adv ks).1,0<=x.w:=λx hx=>by
 obtain⟨u,h⟩:=Pf hx;exact CD adv u ha (nV u) ([],false) (by simp) x h
theorem Xt(l:List Wd)(hn:∀x∈l,0<=x.w):∀k,k<=l.length->0<=(oM l k).least/\0<=(oM l k).vK:=by
 intro k;induction k with
 | zero=>intro _;simp[oM]
 | succ k ih=>
  intro hk;have lN:k<l.length:=by omega
  have hw:=hn l[k] (YJ lN);obtain⟨h1,h2⟩:=ih (by omega);have hl:0<=pS k (oM l k).least l[k]:=by unfold pS;split<;>assumption
  rw[sU l lN];unfold wU rh
  split
  ·exact⟨hl,by simp only;omega⟩
  ·exact⟨hl,h2⟩
theorem ext_nnQ(l:List Wd)(hn:∀x∈l,0<=x.w):0<=(xy l).1/\0<=(xy l).2.1:=by have h:=Xt l hn l.length (X7 _);unfold xy rh;exact⟨h.1,by simp only;omega⟩
structure JB(x:Cn):Prop where
 least:0<=x.least/\x.least<=1099511627776
 lC:0<=x.lC/\x.lC<=1099511627776
 ol:0<=x.ol/\x.ol<=1099511627776
 og:0<=x.og/\x.og<=1099511627776
theorem PD(ks:List Int)(h:∀k∈ks,0<=k):lY ks=nA (ks.map Int.toNat):=by unfold lY nA;rw[List.map_map];refine aAX λx hx=>?_;have:=h x hx;simp only[Function.comp_apply];congr 1;omega
structure qi(w:World)(T:Array Value)(s:me)(a b d e:Int)(W:World):Prop where
 t:lq W w.heap.size 25 T
 r:lq W (w.heap.size+1) 38 #[lx,lx,lx,lx]
 c:lq W (w.heap.size+1+1) 38 #[a,b,d,e]
 s:lq W (w.heap.size+1+1+1) 63 (lj s).toArray
 b:Below w.heap.size w W
section
variable{w W W':World}{T:Array Value}{s:me}{a b d e:Int}
theorem qi.lR(h:qi w T s a b d e W)(hb:Below W.heap.size W W'):qi w T s a b d e W':=
 ⟨h.t.below hb h.t.lt,h.r.below hb h.r.lt,h.c.below hb h.c.lt,h.s.below hb h.s.lt,h.b.trans (hb.mono h.b.size)⟩
theorem qi.lA(h:qi w T s a b d e W)(k:Nat)(u:Value): lq (W.setCell (w.heap.size+1+1,k) u) w.heap.size 25 T/\lq (W.setCell (w.heap.size+1+1,k) u) (w.heap.size+1) 38 #[lx,lx,lx,lx]/\lq (W.setCell (w.heap.size+1+1,k) u) (w.heap.size+1+1+1) 63 (lj s).toArray/\Below w.heap.size w (W.setCell (w.heap.size+1+1,k) u):=
 ⟨h.t.lQ (p:=(w.heap.size+1+1,k)) (by simp;omega) u,h.r.lQ (p:=(w.heap.size+1+1,k)) (by simp) u,h.s.lQ (p:=(w.heap.size+1+1,k)) (by simp) u,h.b.setCell (p:=(w.heap.size+1+1,k)) (by simp;omega) u⟩
theorem qi.xq(h:qi w T s a b d e W)(v:Int):qi w T s v b d e (W.setCell (w.heap.size+1+1,0) v):=by obtain⟨h1,h2,h3,h4⟩:=h.lA 0 v;exact⟨h1,h2,h.c.lA 0 v,h3,h4⟩
theorem qi.F7(h:qi w T s a b d e W)(v:Int):qi w T s a v d e (W.setCell (w.heap.size+1+1,1) v):=by obtain⟨h1,h2,h3,h4⟩:=h.lA 1 v;exact⟨h1,h2,h.c.lA 1 v,h3,h4⟩
theorem qi.Nc(h:qi w T s a b d e W)(v:Int):qi w T s a b v e (W.setCell (w.heap.size+1+1,2) v):=by obtain⟨h1,h2,h3,h4⟩:=h.lA 2 v;exact⟨h1,h2,h.c.lA 2 v,h3,h4⟩
theorem qi.EU(h:qi w T s a b d e W)(v:Int):qi w T s a b d v (W.setCell (w.heap.size+1+1,3) v):=by obtain⟨h1,h2,h3,h4⟩:=h.lA 3 v;exact⟨h1,h2,h.c.lA 3 v,h3,h4⟩
theorem qi.lQ(h:qi w T s a b d e W){g:Nat}(hg:w.heap.size+1+1+1<g)(k:Nat)(u:Value):qi w T s a b d e (W.setCell (g,k) u):=
 ⟨h.t.lQ (p:=(g,k)) (by simp;omega) u,h.r.lQ (p:=(g,k)) (by simp;omega) u,h.c.lQ (p:=(g,k)) (by simp;omega) u,h.s.lQ (p:=(g,k)) (by simp;omega) u,h.b.setCell (p:=(g,k)) (by simp;omega) u⟩
theorem qi.rng(h:qi w T s a b d e W):W.rangeAt (w.heap.size+1+1+1) 0 (lj s):=AH h.s
end
theorem PO{fn:Func}(hr:fn.results= #[.cell 8 38,.tmp 9])(tmps:Array Value)(w:World)(g:Nat)(a b c d:Int)(v9:Value)(hp:tmps.getD 8 undef= .pointer g)(h9:tmps.getD 9 undef=v9)(hg:lq w g 38 #[a,b,c,d]): (results fn tmps).run prog w= .ok (.tuple #[.agg #[a,b,c,d],v9]) w:=by rw[aC5 hr,hp,h9];have h:=aBM (P:=prog) w g 38 38 #[.int .i64 a,.int .i64 b,.int .i64 c,.int .i64 d] (0,0) _ hg underlying38 rfl (by kernel_rfl);simp[asAddr,h,Result.andThen]
structure QnodeA(w w':World)(e:Ending):Prop where
 ex:∃x be,e= .returned (.tuple #[.agg (mP x).toArray,.bool be])/\JB x
 b:Below w.heap.size w w'
structure Vd(w:World)(T:Array Value)(s:me)(gp k:Nat)(a b d e:Int)(W:World):Prop where
 n:qi w T s a b d e W
 p:lq W gp 153 #[.pointer (some ⟨w.heap.size+1+1,0,none⟩),.pointer (some ⟨w.heap.size+1+1,1,none⟩),.pointer (some ⟨w.heap.size+1+1,2,none⟩),.pointer (some ⟨w.heap.size+1+1,3,none⟩)]
 lo:0<=a/\0<=b/\0<=d/\0<=e
 u0:0<k->a<=1099511627776
 u1:1<k->b<=1099511627776
 u2:2<k->d<=1099511627776
 u3:3<k->e<=1099511627776
theorem Vd.step{w W:World}{T:Array Value}{s:me}{gp k:Nat}{a b d e:Int}(H:Vd w T s gp k a b d e W)(hk:k<4)(x:Int)(hx:(k=0->x=a)/\(k=1->x=b)/\(k=2->x=d)/\(k=3->x=e)): ∃a' b' d' e',Vd w T s gp (k+1) a' b' d' e' (W.setCell (w.heap.size+1+1,k) (.int .i64 (lU x))):=by
 have hp:lq (W.setCell (w.heap.size+1+1,k) (.int .i64 (lU x))) gp 153 _:=H.p.lQ (p:=(w.heap.size+1+1,k)) (H.p.se H.n.c (by decide)) _;obtain⟨l1,l2,l3,l4⟩:=H.lo;have h1:=Zu x;obtain rfl | rfl | rfl | rfl:k=0\/k=1\/k=2\/k=3:=by omega
 ·obtain rfl:=hx.1 rfl;exact⟨_,b,d,e,H.n.xq _,hp,⟨AN l1,l2,l3,l4⟩,λ_=>h1,λh=>by omega,λh=>by omega,λh=>by omega⟩
 ·obtain rfl:=hx.2.1 rfl;exact⟨a,_,d,e,H.n.F7 _,hp,⟨l1,AN l2,l3,l4⟩,λ_=>H.u0 (by omega),λ_=>h1,λh=>by omega,λh=>by omega⟩
 ·obtain rfl:=hx.2.2.1 rfl;exact⟨a,b,_,e,H.n.Nc _,hp,⟨l1,l2,AN l3,l4⟩,λ_=>H.u0 (by omega),λ_=>H.u1 (by omega),λ_=>h1,λh=>by omega⟩
 ·obtain rfl:=hx.2.2.2 rfl;exact⟨a,b,d,_,H.n.EU _,hp,⟨l1,l2,l3,AN l4⟩,λ_=>H.u0 (by omega),λ_=>H.u1 (by omega),λ_=>H.u2 (by omega),λ_=>h1⟩
section
variable(l:List Nd)(adv ks:List Int)(got:List Cn)(A A2 Ak Ag:Option Addr)(c c2 ck cg:Nat)(view:Int)(w:World)
theorem R0(i:Nat)(hi:i<l.length)(ht:P7 w w.heap.size A A2 l adv)(hk:Reads w w.heap.size 1 Ak ks.length (lY ks))(qA:∀k∈ks,0<=k/\k<l.length)(pz:ks.length<=65536)(nt:Pd l ks<=500000)(XT:∀x∈l,x.s.mu.length<=1000000)(Sd:∀x∈adv,0<=x) (hg:Reads w w.heap.size 4 Ag got.length (ly got)) (BR:∀x∈got,JB x) (Lo:l[i].s.kind≠3->zp l[i].s): Calls prog 36 #[.agg #[.slice A l.length c,.slice A2 adv.length c2,view],.int .i64 (i:Int),.slice Ak ks.length ck,.slice Ag got.length cg] w λe w'=>QnodeA w w' e:=by
 have XR:=X6 ht.n;obtain⟨ad,rfl,pN⟩:=ht.nd.nd rfl hi;obtain⟨Au,cu,huv,-⟩:=ht.un l[i] (YJ hi);have Lp:ad.block<w.heap.size:=by have:=pN.lt;rw[lp]at this;exact this
 have hadb1:ad.block<w.heap.size+1:=by omega
 have hadb2:ad.block<w.heap.size+1+1:=by omega
 have hadb3:ad.block<w.heap.size+1+1+1:=by omega
 have e1:decide ((i:Int)<0)=false:=X9 (by omega);have e2:decide ((l.length:Int)<=(i:Int))=false:=X9 (by omega);have e2':decide (l.length<=i)=false:=X9 (by omega);have e3:decide ((i:Int)<(l.length:Int))=true:=YC (by omega);have wQ:(i:Int)<(l.length:Int):=by omega
 have pP:Hid (∀W,Below w.heap.size w W->W.rangeAt ad.block ((ad.add (i*44)).off+1) (lj l[i].s)):=X6 (λW hb=>by obtain⟨FT,e,h⟩:=(ht.nd.below hb).nd rfl hi;injection e with e;subst e;have:=h.range;rwa[lp]at this);have HO:=X6 (me.one l[i].s huv);obtain⟨s,hs⟩:∃s,s=l[i].s:=⟨_,rfl⟩;rw[<-hs]at pP Lo HO;have SL:=X6 Lo;have HT:=X6 ht;have HK:=X6 hk;have JJ:=X6 qA;have E8:=X6 pz;have HUN:=X6 nt;have HU1:=X6 XT;have HAD:=X6 Sd;have HGR:=X6 hg;have Yp:=X6 BR;have HN:=X6 ht.n;have nx:Hid (∀o o2 o3:Obj,Below w.heap.size w (((w.alloc o).alloc o2).alloc o3)):=X6 (λo o2 o3=>(bA.alloc (by simp) _).alloc (by simp;omega) _);have x0:w.cell? (ad.block,(ad.add (i*44)).off+1)=some (.int .u8 s.kind):=pP.out w (ZN _ _) 0 _ rfl;have HNL:=X6 (λW (hb:Below w.heap.size w W)=>by have h:=Dw l (some ad) A2 c adv.length c2 view W (ks.map Int.toNat) Ak ck i hi ht.n (λx hx=>by obtain⟨y,hy,rfl⟩:=Z7.1 hx;have:=qA y hy;omega) ((ht.nd.below hb).more hb.size) (by rw[Ts,<-PD ks (λk hk=>(qA k hk).1)];exact(hk.below hb).more hb.size);rw[Ts]at h;exact h);have XP:=X6 (λW (hb:Below w.heap.size w W)=>yH l adv ks (some ad) A2 Ak c c2 ck view W ((ht.below hb).more hb.size) ((hk.below hb).more hb.size) qA (by omega) (by omega) XT);have HWN:Hid ((lP l adv ks).1.length<=500000):=X6 (YL (JH l adv ks) nt);have S7:=X6 (ext_nnQ _ (Zm l adv ks Sd));clear hs Lo ht hk qA pz nt XT Sd hg BR pN huv;cases k3:(s.kind == 3);rotate_left
 ·go_enter func36,ntmps36;have sI:Hid (∀o o2 o3:Obj,Below w.heap.size w (((w.alloc o).alloc (.cells #[lx,lx,lx,lx] 38)).alloc (.cells #[lx,lx,lx,lx] 38))/\lq (((w.alloc o).alloc (.cells #[lx,lx,lx,lx] 38)).alloc (.cells #[lx,lx,lx,lx] 38)) (w.heap.size+1) 38 #[lx,lx,lx,lx]/\lq (((w.alloc o).alloc (.cells #[lx,lx,lx,lx] 38)).alloc (.cells #[lx,lx,lx,lx] 38)) (w.heap.size+1+1) 38 #[lx,lx,lx,lx]):=X6 (λo _ _=>⟨nx.out _ _ _,(lq.at_ _ _ _ (by simp)).alloc _,lq.at_ _ _ _ (by simp)⟩);have HR:=X6 (sI.out (.cells #[.slice (some ad) l.length c,.slice A2 adv.length c2,view] 25) (.cells #[] 0) (.cells #[] 0));clear sI;go_upto_region 3 with(fail)
  clear x0;generalize World.alloc (World.alloc _ _) _=w1 at HR⊢;obtain⟨k0,k1,k2,k3⟩:=HR.2.2.c4;obtain⟨r0,r1,r2,r3⟩:=HR.2.1.c4;have cl:=HR.2.2.lt;have rf:=HR.2.1.frozen;have rl:=HR.2.1.lt;go_wp2_with fail;refine ZQ (PO rfl _ _ (w.heap.size+1) 0 0 0 0 (.bool false) rfl rfl ((((HR.2.1.lA 0 _).lA 1 _).lA 2 _).lA 3 _)) rfl ⟨⟨⟨0,0,0,0⟩,_,rfl,⟨by decide,by decide,by decide,by decide⟩⟩,?_⟩;exact(((HR.1.setCell (p:=(w.heap.size+1,0)) (by simp) _).setCell (p:=(w.heap.size+1,1)) (by simp) _).setCell (p:=(w.heap.size+1,2)) (by simp) _).setCell (p:=(w.heap.size+1,3)) (by simp) _
 have h3:s.kind≠3:=by simpa using k3
 have HS:=X6 (SL.out h3);clear h3 SL;go_enter func36,ntmps36;go_upto_region 5 with(first | refine wpList_load_mid rfl 63 (.tmp 54) rfl ad.block ((ad.add (i*44)).off+1) rfl (lj s) _ (pP.out _ (nx.out _ _ _)) underlying63 rfl (by kernel_rfl) ?_ | refine lJ rfl 63 _ _ rfl (w.heap.size+1+1+1) (by simp) (lj s).toArray rfl rfl 63 _ (by kernel_rfl) rfl HO.out ?_)
 have EH:Hid (qi w #[.slice (some ad) l.length c,.slice A2 adv.length c2,view] s 0 0 0 0 ((((w.alloc (.cells #[.slice (some ad) l.length c,.slice A2 adv.length c2,view] 25)).alloc (.cells #[lx,lx,lx,lx] 38)).alloc (.cells #[lx,lx,lx,lx] 38)).alloc (.cells (lj s).toArray 63))):=
  X6 ⟨(((lq.new _ _ _).alloc _).alloc _).alloc _,((lq.at_ _ _ _ (by simp)).alloc _).alloc _,(lq.at_ _ _ _ (by simp)).alloc _,lq.at_ _ _ _ (by simp),(nx.out _ _ _).alloc (by simp;omega) _⟩
 clear x0;generalize World.alloc (World.alloc _ _) _=w1 at EH⊢;obtain⟨t0,t1,t2⟩:=EH.t.c3;have tl:=EH.t.lt;go_upto_if 59 with(go_at_call 71;refine(HNL.out _ EH.b).mono ?_;rintro e w2 ⟨⟨bl,rfl⟩,mr⟩;have qI:=X6 (EH.lR mr);clear mr)
 clear t0 t1 t2 tl HNL EH;go_cut [12] (λv W=>∃(be:Bool) (a b:Int),v= .bool be/\Hid (qi w #[.slice (some ad) l.length c,.slice A2 adv.length c2,view] s a b 0 0 W/\0<=a/\0<=b));case first=>
  cases bl
  rotate_left
  ·obtain⟨t0,t1,t2⟩:=qI.t.c3;have tl:=qI.t.lt;go_wp2_with (go_at_call 72;refine(XP.out _ qI.b).mono ?_;rintro e w3 ⟨⟨v4,v5,rfl,zJ,-⟩,pn⟩;obtain⟨A4,c4,rfl⟩:=lZ zJ;have wI:=X6 (qI.lR pn);have qO:=X6 zJ;clear pn zJ t0 t1 t2 tl);go_loopw [12,15] (λbv iv wr=>∃(j:Nat) (be:Bool),j<=ks.length/\bv= .bool be/\iv= .int .i64 (j:Int)/\Hid (qi w #[.slice (some ad) l.length c,.slice A2 adv.length c2,view] s 0 0 0 0 wr/\Below w3.heap.size w3 wr)) (λ_ iv _=>ks.length-(intOf iv).toNat);case atStart=>exact⟨0,false,by omega,rfl,rfl,X6 ⟨wI.out,ZN _ _⟩⟩
   case round=>
    obtain⟨j,be,hj,rfl,rfl,H⟩:=hrel;have bt:=H.1.t.c3;have hwj:IntKind.i64.wrap ((j:Int)+1)=(j:Int)+1:=YG _ ⟨by omega,by have:=E8.out;omega⟩;by_cases lN:j<ks.length;rotate_left
    ·have d0:decide ((j:Int)<(ks.length:Int))=false:=X9 (by omega);have pJ:decide (j<ks.length)=false:=X9 lN;have HL:Hid (qi w #[.slice (some ad) l.length c,.slice A2 adv.length c2,view] s 0 0 0 0 wr/\Reads wr wr.heap.size 5 A4 (lP l adv ks).1.length (mC (lP l adv ks).1)):=X6 ⟨H.1,Reads.mo (lG qO.out H.2)⟩;clear H bt;obtain⟨L,hL⟩:∃L,L=(lP l adv ks).1:=⟨_,rfl⟩;have HLU:=X6 (show VH L from hL▸gat_ws l adv ks);rw[<-hL]at HL HWN S7⊢;clear hL XP qO;obtain⟨t0,t1,t2⟩:=HL.1.t.c3;have tl:=HL.1.t.lt;obtain⟨k0,k1,k2,k3⟩:=HL.1.c.c4;have kl:=HL.1.c.lt;have kf:=HL.1.c.frozen;have HEX:=X6 (Xv L A4 c4 wr HLU.out HWN.out HL.2);obtain⟨E,hE⟩:∃E,E=xy L:=⟨_,rfl⟩;rw[<-hE]at HEX S7;clear hE;obtain⟨x0,x1,xb⟩:=E;go_upto_region 14 with(go_at_call 74;refine HEX.mono ?_;rintro e w4 ⟨rfl,sY⟩;have tR:=X6 (HL.1.lR sY);clear sY t0 t1 t2 tl k0 k1 k2 k3 kl kf;obtain⟨k0,k1,k2,k3⟩:=tR.c.c4;have kl:=tR.c.lt;have kf:=tR.c.frozen)
     have pQ:=X6 ((tR.xq x0).F7 x1);cases be;all_goals go_wp2_with fail
     all_goals go_meet
     all_goals exact⟨_,_,_,rfl,X6 ⟨pQ.out,S7.1,S7.2⟩⟩
    have d0:decide ((j:Int)<(ks.length:Int))=true:=YC (by omega);have pJ:decide (j<ks.length)=true:=YC lN;obtain⟨zD,zH⟩:=JJ.out ks[j] (YJ lN);obtain⟨q,hq⟩:=ZY zD;have pW:q<l.length:=(by omega);obtain⟨CA,u,Pg,qu,hx,hc⟩:=(HK.below H.1.b).at_ lN;subst Pg;have hu:u= .int .i64 (q:Int):=(by rw[<-hq];simpa[lY,lN]using hx.symm);subst hu;have f2:decide ((l.length:Int)<=(q:Int))=false:=X9 (by omega);have f2':decide (l.length<=q)=false:=X9 (by omega);have f3:decide ((q:Int)<(l.length:Int))=true:=YC (by omega);have Mh:Hid (∀W,Below w.heap.size w W->W.cell? (CA.add j)=(q:Int)/\CA.block<W.heap.size):=X6 (λW hb=>by obtain⟨FT,u2,e,h1,h2,h3⟩:=(HK.below hb).at_ lN;injection e with e;subst e;rw[hx]at h2;injection h2 with h2;subst h2;exact⟨h3,YK h1 hb.size⟩);have KQ:(q:Int)<(l.length:Int):=(by omega);have Cq:(j:Int)<(ks.length:Int):=(by omega);obtain⟨FT,hA,pN⟩:=HT.nd.nd rfl pW;injection hA with hA
    subst hA;obtain⟨Aq,cq,huv,Et,Jq,Nt,nt⟩:=HT.un l[q] (YJ pW);have HWS:Hid (Ox none A2 ad q l.length adv.length c c2 w.heap.size l[q].s.uv wr):=X6 ⟨H.1.t.lt,YK (by have:=pN.lt;rw[lp]at this;exact this) H.1.b.size,bt.1,bt.2.1,(H.1.b.cell (p:=(ad.block,(ad.add (q*44)).off+43)) (by have:=pN.lt;rw[lp]at this;exact this)).trans (by rw[<-lp ad (q*44)];exact pN.cs 42 _ rfl)⟩;obtain⟨un,Lh⟩:∃un,un=l[q].s.mu:=⟨_,rfl⟩;rw[huv]at HWS;rw[<-Lh]at HWS Jq Et Nt nt;have HU:=X6 (And.intro Et (And.intro Jq (And.intro Nt nt)));have XA:=X6 Lh;clear zD zH hx hc qu pN huv Et Jq Nt nt Lh hq;go_upto_region 11 with(fail)
    refine wp_region_held_drew (S:=λW=>Ox none A2 ad q l.length adv.length c c2 w.heap.size (.slice Aq un.length cq) W/\W.cell? (CA.add j)=(q:Int)/\CA.block<W.heap.size) (by kernel_rfl) ⟨HWS.below (ZN _ _).drew,Mh.out _ H.1.b.drew⟩ (λhS=>?_);refine GZ 0 ?_;iterate 12
     refine OE (v:=?_) ?_ hS ?_;rotate_left
     ·rintro W' ⟨⟨J1,hla',c0',c1',cu'⟩,ck',kl'⟩;go_simp;rfl
     try simp only[Act.put,X8,YF,YE,YD,YA,YB]
    refine mV 12 (λK hK=>?_);go_simp;refine(DX un adv Aq A2 cq c2 _ HU.2.2.1 HT.i64 (XA.out▸HU1.out _ (YJ pW)) HU.1 ((HU.2.1.below (H.1.b.trans (ZN _ _).drew)).more H.1.b.size) ((HT.ad.below (H.1.b.trans (ZN _ _).drew)).more H.1.b.size)).mono ?_;rintro e w9 ⟨⟨A9,c9,rfl,qp⟩,mH⟩;refine ky hK ⟨hS.1.below mH,(mH.cell (p:=CA.add j) (by rw[lp];exact hS.2.2)).trans hS.2.1,YK hS.2.2 mH.size⟩ λhS=>?_;clear hK;refine GZ 13 ?_;iterate 5
     refine OE (v:=?_) ?_ hS ?_;rotate_left
     ·rintro W' ⟨⟨J1,hla',c0',c1',cu'⟩,ck',kl'⟩;go_simp;rfl
     try simp only[Act.put,X8,YF,YE,YD,YA,YB]
    refine nR ?_;clear hS;have BV:=X6 (And.intro (H.1.lR ((ZN _ _).drew.trans mH)) (H.2.trans (((ZN _ _).drew.trans mH).mono H.2.size)));generalize (ng adv un).2=cb;clear qp mH;cases be;all_goals go_wp2_with fail
    all_goals go_roundw
    all_goals first
     | (case rel=>exact⟨j+1,_,by omega,rfl,by go_num,BV⟩)
     | skip
    all_goals (simp[intOf];omega)
  ·have pD:=qI.t.c3;have tl:=qI.t.lt;go_wp2_with fail;go_loopw [21,22,23,24] (λav sv fv iv wr=>∃(j:Nat) (a b al su fl:Int),j<=ks.length/\av= .int .i64 al/\sv= .int .i64 su/\fv= .int .i64 fl/\iv= .int .i64 (j:Int)/\Hid (qi w #[.slice (some ad) l.length c,.slice A2 adv.length c2,view] s a b 0 0 wr/\0<=a/\0<=b)/\(0<=al/\al<=(j:Int)*1099511627776)/\(0<=su/\su<=(j:Int)*1099511627776)/\0<=fl/\fl<=(j:Int)*1099511627776) (λ_ _ _ iv _=>ks.length-(intOf iv).toNat);case atStart=>exact⟨0,0,0,0,0,0,by omega,rfl,rfl,rfl,rfl,X6 ⟨qI.out,by omega,by omega⟩,by omega,by omega,by omega⟩
   case round=>
    clear pD tl;obtain⟨j,a,b,al,su,fl,hj,rfl,rfl,rfl,rfl,H,hal,hsu,Aj⟩:=hrel;have hwj:IntKind.i64.wrap ((j:Int)+1)=(j:Int)+1:=YG _ ⟨by omega,by have:=E8.out;omega⟩;have hj2:(j:Int)*1099511627776<=72057594037927936:=(by have:=E8.out;omega);have hal2:al<=72057594037927936:=(by omega);have hsu2:su<=72057594037927936:=(by omega);have hfl2:fl<=72057594037927936:=(by omega);by_cases lN:j<ks.length;rotate_left
    ·have d0:decide ((j:Int)<(ks.length:Int))=false:=X9 (by omega);have pJ:decide (j<ks.length)=false:=X9 lN;have HB:=X6 (And.intro H.2 (And.intro hal.1 (And.intro hsu.1 Aj.1)));have wI:=X6 H.1;clear H hal hsu Aj hj2 hal2 hsu2 hfl2 hwj;obtain⟨k0,k1,k2,Po⟩:=wI.c.c4;have kl:=wI.c.lt;have kf:=wI.c.frozen;go_upto_region 33 with(fail)
     have tR:=X6 (wI.F7 (max b fl));clear k0 k1 k2 Po kl kf wI;generalize World.setCell wr _ _=w4 at tR⊢;obtain⟨k0,k1,k2,Po⟩:=tR.c.c4;have kl:=tR.c.lt;have kf:=tR.c.frozen;have y0:=tR.s.get 0 (v:= .int .u8 s.kind) rfl;have y15:=tR.s.get 34 (v:= .bool s.wrap) rfl;have yl:=tR.s.lt;cases ek:(s.kind == 2)
     ·go_wp2_with fail;go_meet;exact⟨_,_,_,rfl,X6 ⟨tR.out,HB.1.1,by have:=HB.out;omega⟩⟩
     ·cases ew:s.wrap
      ·rw[ew]at y15;have pQ:=X6 ((tR.F7 su).xq al);go_wp2_with fail;go_meet;exact⟨_,_,_,rfl,X6 ⟨pQ.out,HB.2.1,HB.2.2.1⟩⟩
      ·rw[ew]at y15;have pQ:=X6 (tR.F7 su);go_wp2_with fail;go_meet;exact⟨_,_,_,rfl,X6 ⟨pQ.out,HB.1.1,HB.2.2.1⟩⟩
    have d0:decide ((j:Int)<(ks.length:Int))=true:=YC (by omega);have pJ:decide (j<ks.length)=true:=YC lN;obtain⟨t0,t1,t2⟩:=H.1.t.c3;have tl:=H.1.t.lt;go_upto_if 115 with(fail)
    obtain⟨gx,DR⟩:∃g,g=wr.heap.size:=⟨_,rfl⟩;have HX:Hid (qi w #[.slice (some ad) l.length c,.slice A2 adv.length c2,view] s a b 0 0 (wr.alloc (.cells #[lx,lx,lx,lx] 38))/\lq (wr.alloc (.cells #[lx,lx,lx,lx] 38)) gx 38 #[lx,lx,lx,lx]/\w.heap.size+1+1+1<gx):=X6 ⟨H.1.lR bA,lq.at_ _ _ _ DR,by have:=H.1.s.lt;omega⟩;have E5:=X6 H.2;rw[<-DR];clear DR H t0 t1 t2 tl;generalize World.alloc wr _=wx at HX⊢;go_cut [] (λW=>∃x:Cn,JB x/\Hid (qi w #[.slice (some ad) l.length c,.slice A2 adv.length c2,view] s a b 0 0 W/\lq W gx 38 (mP x).toArray/\w.heap.size+1+1+1<gx));case first=>
     by_cases hg:j<got.length
     ·have g0:decide ((j:Int)<(got.length:Int))=true:=YC (by omega);have J9:decide (j<got.length)=true:=YC hg;have Cq:(j:Int)<(got.length:Int):=(by omega);obtain⟨adg,rfl,zG,g1,g2,g3,g4⟩:=(HGR.below HX.1.b).cn rfl hg;have aae:adg.block<wx.heap.size:=YK zG HX.1.b.size;have hgne:adg.block≠gx:=(by have:=HX.2.2;omega);have HGX:=X6 (Yp.out _ (YJ hg));obtain⟨x,hx⟩:∃x,x=got[j]:=⟨_,rfl⟩;rw[<-hx]at g1 g2 g3 g4 HGX;clear hx;have HBX:=X6 HX.2;obtain⟨o0,o1,o2,o3⟩:=HX.2.1.c4;have of:=HX.2.1.frozen;have ol:=HX.2.1.lt;have HY:Hid (qi w #[.slice (some ad) l.length c,.slice A2 adv.length c2,view] s a b 0 0 ((((wx.setCell (gx,0) x.least).setCell (gx,1) x.lC).setCell (gx,2) x.ol).setCell (gx,3) x.og)/\lq ((((wx.setCell (gx,0) x.least).setCell (gx,1) x.lC).setCell (gx,2) x.ol).setCell (gx,3) x.og) gx 38 (mP x).toArray):=X6 ⟨(((HX.1.lQ HX.2.2 0 _).lQ HX.2.2 1 _).lQ HX.2.2 2 _).lQ HX.2.2 3 _,by simpa[mP]using((((HX.2.1.lA 0 x.least).lA 1 x.lC).lA 2 x.ol).lA 3 x.og)⟩;go_wp2_with fail;go_meet;exact⟨x,HGX.out,X6 ⟨HY.1,HY.2,HBX.2⟩⟩
     ·have g0:decide ((j:Int)<(got.length:Int))=false:=X9 (by omega);have J9:decide (j<got.length)=false:=X9 hg;go_wp2_with fail;go_meet;exact⟨⟨0,0,0,0⟩,⟨by decide,by decide,by decide,by decide⟩,HX⟩
    case rest=>
    clear HX;obtain⟨x,hx,HX⟩:=hcut;have HCX:=X6 hx;have wC:=hx.ol;have GK:=hx.og;clear hx;obtain⟨x0,x1,x2,x3⟩:=x;simp only at wC GK;have xJ:Hid (qi w #[.slice (some ad) l.length c,.slice A2 adv.length c2,view] s (max a x2) b 0 0 (wc.setCell (w.heap.size+1+1,0) (.int .i64 (max a x2)))/\lq (wc.setCell (w.heap.size+1+1,0) (.int .i64 (max a x2))) gx 38 #[x0,x1,x2,x3]):=X6 ⟨HX.1.xq _,HX.2.1.lQ (p:=(w.heap.size+1+1,0)) (by have:=HX.2.2;simp;omega) _⟩;obtain⟨k0,k1,k2,Po⟩:=HX.1.c.c4;have kl:=HX.1.c.lt;have kf:=HX.1.c.frozen;have hgx3:=HX.2.2;have hgx2:w.heap.size+1+1≠gx:=(by omega);have hgx2':gx≠w.heap.size+1+1:=(by omega);obtain⟨o2,o3⟩:wc.cell? (gx,2)=x2/\wc.cell? (gx,3)=x3:=⟨HX.2.1.get 2 rfl,HX.2.1.get 3 rfl⟩;have ol:=HX.2.1.lt;go_upto_region 29 with(fail)
    clear k0 k1 k2 Po kl kf o2 o3 ol HX hgx3 hgx2 hgx2';generalize World.setCell wc _ _=w5 at xJ⊢;obtain⟨zD,zH⟩:=JJ.out ks[j] (YJ lN);obtain⟨q,hq⟩:=ZY zD;have pW:q<l.length:=(by omega);obtain⟨CA,u,Pg,qu,hx,hc⟩:=(HK.below xJ.1.b).at_ lN;subst Pg;have hu:u= .int .i64 (q:Int):=(by rw[<-hq];simpa[lY,lN]using hx.symm);subst hu;have f3:decide ((q:Int)<(l.length:Int))=true:=YC (by omega);have KQ:(q:Int)<(l.length:Int):=(by omega);have Cq:(j:Int)<(ks.length:Int):=(by omega);obtain⟨FT,hA,pN⟩:=(HT.nd.below xJ.1.b).nd rfl pW;injection hA with hA
    subst hA;have hz:=pN.lt;rw[lp]at hz;have XZ:ad.block<w5.heap.size:=YK hz xJ.1.b.size;have hz3:CA.block<w5.heap.size:=YK qu xJ.1.b.size;have q3:=(yd pN).2.2.2;obtain⟨ft,hft⟩:∃f,l[q].s.float=f:=⟨_,rfl⟩;rw[hft]at q3;clear zD zH hq hx pN hft hz qu;obtain⟨t0,t1,t2⟩:=xJ.1.t.c3;have tl:=xJ.1.t.lt;cases Tx:(ft == 0)
    ·have Zq:(ft != 0)=true:=(by simp[bne,Tx]);go_quiet (fail);have II:Hid (qi w #[.slice (some ad) l.length c,.slice A2 adv.length c2,view] s (max a x2) b 0 0 (w5.drewN nq)/\lq (w5.drewN nq) gx 38 #[x0,x1,x2,x3]):=X6 ⟨xJ.1.lR (oQ (ZN _ _) nq),xJ.2⟩;clear t0 t1 t2 tl xJ hc q3 XZ hz3;generalize w5.drewN nq=w6 at II⊢;have o3:=II.2.get 3 (v:= .int .i64 x3) rfl;have ol:=II.2.lt;go_wp2_with fail;go_roundw;case rel=>exact⟨j+1,max a x2,b,_,_,_,by omega,rfl,rfl,rfl,by go_num,X6 ⟨II.1,by have:=E5.out;omega,E5.2⟩,by omega,by omega,by omega⟩
     case measure=>simp[intOf];omega
    ·have Zq:(ft != 0)=false:=(by simp[bne,Tx]);go_quiet (fail);have II:Hid (qi w #[.slice (some ad) l.length c,.slice A2 adv.length c2,view] s (max a x2) b 0 0 (w5.drewN nq)/\lq (w5.drewN nq) gx 38 #[x0,x1,x2,x3]):=X6 ⟨xJ.1.lR (oQ (ZN _ _) nq),xJ.2⟩;clear t0 t1 t2 tl xJ hc q3 XZ hz3;generalize w5.drewN nq=w6 at II⊢;have o3:=II.2.get 3 (v:= .int .i64 x3) rfl;have ol:=II.2.lt;obtain⟨k0,k1,k2,Po⟩:=II.1.c.c4;have kl:=II.1.c.lt;have kf:=II.1.c.frozen;have HX7:=X6 (II.1.F7 (max b x3));go_wp2_with fail;go_roundw;case rel=>exact⟨j+1,max a x2,max b x3,_,_,_,by omega,rfl,rfl,rfl,by go_num,X6 ⟨HX7.out,by have:=E5.out;omega,by have:=E5.out;omega⟩,by omega,by omega,by omega⟩
     case measure=>simp[intOf];omega
 case rest=>
 obtain⟨be,a,b,rfl,R3⟩:=hcut;have HI:=X6 R3.1;have E5:=X6 R3.2;clear R3 qI;obtain⟨k0,k1,k2,Po⟩:=HI.c.c4;have kl:=HI.c.lt;have sl:=HI.s.lt;have kf:=HI.c.frozen;have HOU:=X6 (λv W=>M9 s v W HS.out);go_upto_region 38 with(first | (refine wpList_load_mid rfl 63 _ rfl (w.heap.size+1+1+1) 0 rfl (lj s) _ HI.rng underlying63 rfl (by kernel_rfl) ?_) | (go_at_call 75;refine(HOU.out _ _).mono ?_;rintro e w7 ⟨⟨x2,rfl,wC⟩,qk⟩;have zC:=X6 (HI.lR qk);clear qk k0 k1 k2 Po kl sl kf;obtain⟨k0,k1,k2,Po⟩:=zC.c.c4;have kl:=zC.c.lt;have kf:=zC.c.frozen));have PX:=X6 (zC.Nc x2);clear k0 k1 k2 Po kl kf HI zC;generalize World.setCell w7 _ _=w8 at PX⊢;obtain⟨k0,k1,k2,Po⟩:=PX.c.c4;have kl:=PX.c.lt;have sl:=PX.s.lt;have kf:=PX.c.frozen;go_upto_region 39 with(first | (refine wpList_load_mid rfl 63 _ rfl (w.heap.size+1+1+1) 0 rfl (lj s) _ PX.rng underlying63 rfl (by kernel_rfl) ?_) | (go_at_call 75;refine(HOU.out _ _).mono ?_;rintro e w9 ⟨⟨x3,rfl,GK⟩,mH⟩;have qV:=X6 (PX.lR mH);clear mH k0 k1 k2 Po kl sl kf;obtain⟨k0,k1,k2,Po⟩:=qV.c.c4;have kl:=qV.c.lt;have kf:=qV.c.frozen));have v7:=X6 (qV.EU x3);clear k0 k1 k2 Po kl kf PX qV HOU;generalize World.setCell w9 _ _=sy at v7⊢;obtain⟨gp,hgp⟩:∃g,g=sy.heap.size:=⟨_,rfl⟩;have HQ0:Hid (Vd w #[.slice (some ad) l.length c,.slice A2 adv.length c2,view] s gp 0 a b x2 x3 (sy.alloc (.cells #[.pointer (some ⟨w.heap.size+1+1,0,none⟩),.pointer (some ⟨w.heap.size+1+1,1,none⟩),.pointer (some ⟨w.heap.size+1+1,2,none⟩),.pointer (some ⟨w.heap.size+1+1,3,none⟩)] 153))):=X6 ⟨v7.lR bA,lq.at_ _ _ _ hgp,⟨E5.1,E5.2,wC,GK⟩,λh=>by omega,λh=>by omega,λh=>by omega,λh=>by omega⟩;have kl:=v7.c.lt;clear E5 wC GK;go_upto_region 40 with(fail);rw[<-hgp];clear hgp kl v7;generalize World.alloc sy _=xM at HQ0⊢;go_wp2_with fail;go_loopw [12,27] (λbv iv wr=>∃(k:Nat) (be:Bool) (a b d g:Int),k<=4/\iv= .int .i64 (k:Int)/\bv= .bool be/\Hid (Vd w #[.slice (some ad) l.length c,.slice A2 adv.length c2,view] s gp k a b d g wr)) (λ_ iv _=>4-(intOf iv).toNat);case atStart=>exact⟨0,be,a,b,x2,x3,by omega,rfl,rfl,HQ0⟩
 case round=>
  clear HQ0;have HC:=X6 (λx W=>qP x W);obtain⟨k,be1,a1,b1,d1,g1,hk,rfl,rfl,HQ⟩:=hrel;obtain⟨k0,k1,k2,Po⟩:=HQ.n.c.c4;have kl:=HQ.n.c.lt;by_cases lN:k<4
  ·have kf:=HQ.n.c.frozen;obtain⟨p0,p1,p2,p3⟩:=HQ.p.c4;have pl:=HQ.p.lt;obtain rfl | rfl | rfl | rfl:k=0\/k=1\/k=2\/k=3:=by omega
   ·cases be1
    all_goals
     go_wp2_with (go_at_call 76;refine(HC.out _ _).mono ?_;rintro e w' ⟨rfl,rfl⟩);go_roundw;case rel=>obtain⟨a2,b2,d2,g2,H⟩:=HQ.step (by omega) a1 (by simp);exact⟨1,_,a2,b2,d2,g2,by omega,by go_num,rfl,X6 H⟩
     case measure=>simp[intOf]
   ·cases be1
    all_goals
     go_wp2_with (go_at_call 76;refine(HC.out _ _).mono ?_;rintro e w' ⟨rfl,rfl⟩);go_roundw;case rel=>obtain⟨a2,b2,d2,g2,H⟩:=HQ.step (by omega) b1 (by simp);exact⟨2,_,a2,b2,d2,g2,by omega,by go_num,rfl,X6 H⟩
     case measure=>simp[intOf]
   ·cases be1
    all_goals
     go_wp2_with (go_at_call 76;refine(HC.out _ _).mono ?_;rintro e w' ⟨rfl,rfl⟩);go_roundw;case rel=>obtain⟨a2,b2,d2,g2,H⟩:=HQ.step (by omega) d1 (by simp);exact⟨3,_,a2,b2,d2,g2,by omega,by go_num,rfl,X6 H⟩
     case measure=>simp[intOf]
   ·cases be1
    all_goals
     go_wp2_with (go_at_call 76;refine(HC.out _ _).mono ?_;rintro e w' ⟨rfl,rfl⟩);go_roundw;case rel=>obtain⟨a2,b2,d2,g2,H⟩:=HQ.step (by omega) g1 (by simp);exact⟨4,_,a2,b2,d2,g2,by omega,by go_num,rfl,X6 H⟩
     case measure=>simp[intOf]
  ·obtain rfl:k=4:=(by omega);obtain⟨r0,r1,r2,r3⟩:=HQ.n.r.c4;have rf:=HQ.n.r.frozen;have rl:=HQ.n.r.lt;go_wp2_with fail;refine ZQ (PO rfl _ _ (w.heap.size+1) a1 b1 d1 g1 (.bool be1) rfl rfl ((((HQ.n.r.lA 0 _).lA 1 _).lA 2 _).lA 3 _)) rfl ⟨⟨⟨a1,b1,d1,g1⟩,_,rfl,⟨⟨HQ.lo.1,HQ.u0 (by omega)⟩,⟨HQ.lo.2.1,HQ.u1 (by omega)⟩,⟨HQ.lo.2.2.1,HQ.u2 (by omega)⟩,⟨HQ.lo.2.2.2,HQ.u3 (by omega)⟩⟩⟩,?_⟩;exact(((HQ.n.b.setCell (p:=(w.heap.size+1,0)) (by simp) _).setCell (p:=(w.heap.size+1,1)) (by simp) _).setCell (p:=(w.heap.size+1,2)) (by simp) _).setCell (p:=(w.heap.size+1,3)) (by simp) _
end
end Go.Proofs.YtjhingednpjogaaGreat
