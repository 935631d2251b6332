/- Lemmas for ValidRoom; laid together by a program. -/
import Derived.Test.YtjhingednpjogaaGreatMs
set_option linter.all false
set_option maxRecDepth 100000
set_option maxHeartbeats 4000000
open Go.RowKit
namespace Go.Proofs.YtjhingednpjogaaGreat
open Go.Proofs.Tryz
section
attribute [local go_sem] lp oB ox
def uW(x:It):Int×Int×Int:=(lU (VY x.width),lU x.left,lU x.right)
def qZ(x:It):Bool:=mG (VY x.width) || mG x.left || mG x.right
def uh(s:me)(c:Int)(l:List me)(got:List Cn):Nat->It:=sB c (xr l c got) (sw s.wrap c (pY (xr l c got)) (nc (pT l) l.length))
structure MainsAns(s:me)(c:Int)(l:List me)(got:List Cn)(w w':World)(e:Ending):Prop where
 ex:∃gu gb,e= .returned (.tuple #[.slice (some ⟨gu,0,none⟩) l.length l.length,.slice (some ⟨gb,0,none⟩) l.length l.length])/\lq w' gu 40 (ow (λk=>uW (uh s c l got k)) l.length).toArray/\
  lq w' gb 4 (oH (λk=>qZ (uh s c l got k)) l.length).toArray/\w.heap.size<=gu/\w.heap.size<=gb
 b:Below w.heap.size w w'
theorem JE(o:Nat->Int)(n:Nat):(nc o n).Nodup:=(Ef o n).imp fun {a b} h e=>by subst e;exact h.asymm h
theorem KI(c:Int):∀(rows:List (List Nat)) (M:Nat->It) (k:Nat),k∉rows.flatten->sB c M rows k=M k
 | [],M,k,_=>rfl
 | r::t,M,k,h=>by rw[aAG,YW]at h;show sB c (zY c M r) t k=M k;rw[KI c t _ k λh2=>h (.inr h2),Pn c M r k λh2=>h (.inl h2)]
theorem Qb(c:Int)(rows:List (List Nat))(M:Nat->It)(hn:rows.flatten.Nodup){r:Nat}(hr:r<rows.length){k:Nat}(hk:k∈rows[r]):sB c M (rows.take r) k=M k:=by
 refine KI c _ _ k λh=>?_;have e:rows=rows.take r++rows[r]::rows.drop (r+1):=by rw[<-ZH hr,ZL]
 rw[e,aA8,aAG]at hn;exact(aBO.1 hn).2.2 k h k (aA4 _ hk) rfl
theorem QR(c:Int)(rows:List (List Nat))(M:Nat->It){r:Nat}(hr:r<rows.length):sB c M (rows.take (r+1))=zY c (sB c M (rows.take r)) rows[r]:=by unfold sB;rw[YU hr,aB9];rfl
theorem Qe{rows:List (List Nat)}(hn:rows.flatten.Nodup){r:Nat}(hr:r<rows.length):rows[r].Nodup:=by
 have e:rows=rows.take r++rows[r]::rows.drop (r+1):=by rw[<-ZH hr,ZL]
 rw[e,aA8,aAG]at hn;exact(aBO.1 (aBO.1 hn).2.1).1
theorem row_len{rows:List (List Nat)}{r:Nat}(hr:r<rows.length):rows[r].length<=rows.flatten.length:=by
 have e:rows=rows.take r++rows[r]::rows.drop (r+1):=by rw[<-ZH hr,ZL]
 have e2:=aCV (λx=>x.flatten.length) e;simp only[aA8,aAG,YM]at e2;omega
structure StX(s:me):Prop where
 m:UA s
 grow:0<=s.grow/\s.grow<=60
 shrink:0<=s.shrink/\s.shrink<=60
theorem Wj{l:List me}{c:Int}{got:List Cn}(hs:∀s∈l,StX s)(hc:CB c)(hg:∀x∈got,0<=x.lC/\x.lC<=1099511627776)(k:Nat)(hk:k<l.length):I8 (xr l c got k):=by have hb:=P2 (λs h=>(hs s h).m) hc hg k hk;have hx:=hs l[k] (YJ hk);have hba:=LR hx.m hc (Mz hg k);unfold xr at hb⊢;rw[Jp hk]at hb⊢;exact⟨rfl,hc,hx.m.mz,hx.m.my,hb.mY,hba,hb.guess,hx.grow,hx.shrink⟩
structure RO(n:Nat)(B:Nat->Nat)(M:Nat->It)(gp lo hi:Nat)(v:Value)(rows:List (List Nat))(w W:World):Prop where
 pt:lq W gp 273 (Fo B (List.range n)).toArray
 its:C4 n B M W
 rws:qa W lo hi v rows
 b:Below w.heap.size w W
 tH:hi<=W.heap.size
 gpb:∀k,k<n->gp<B k
 blo:∀k,k<n->B k<lo
 lh:lo<=hi
 ge:w.heap.size<=gp
 gpl:gp<lo
section
variable{n gp lo hi:Nat}{B:Nat->Nat}{M M2:Nat->It}{v:Value}{rows:List (List Nat)}{w W W':World}
theorem RO.lR(h:RO n B M gp lo hi v rows w W)(hb:Below W.heap.size W W'):RO n B M gp lo hi v rows w W':=
 ⟨h.pt.below hb h.pt.lt,h.its.lR hb,h.rws.below (hb.mono h.tH),h.b.trans (hb.mono h.b.size),YL h.tH hb.size,h.gpb,h.blo,h.lh,h.ge,h.gpl⟩
theorem RO.kp(h:RO n B M gp lo hi v rows w W)(hk:Kp (isB n B) W W')(LC:C4 n B M2 W'):RO n B M2 gp lo hi v rows w W':=
 ⟨h.pt.kp hk (λ⟨k,hk,e⟩=>by have:=h.gpb k hk;omega),LC,h.rws.keep (λp h1 h2=>hk.cell (by have:=h.tH;omega) (λ⟨k,hk,e⟩=>by have:=h.blo k hk;omega)),
  h.b.trans (hk.below (λg ⟨k,hk,e⟩=>by have:=h.gpb k hk;have:=h.ge;omega) h.b.size),YL h.tH hk.size,h.gpb,h.blo,h.lh,h.ge,h.gpl⟩
theorem RO.grown(h:RO n B M gp lo hi v rows w W){row:Option Nat}(hg:W.grownBy W' row)(hr:∀g,row=some g->hi<=g):RO n B M gp lo hi v rows w W':=by
 have hl:=h.lh;refine⟨h.pt.grown hg (λe=>by have:=hr gp e.symm;have:=h.gpl;omega),⟨λk hk=>(h.its.b k hk).grown hg (λe=>by have:=hr _ e.symm;have:=h.blo k hk;omega),h.its.inj⟩,h.rws.keep (λp h1 h2=>Y8 (hg.block p.block (by have:=h.tH;omega) (λe=>by have:=hr _ e.symm;omega))),
  h.b.grown hg h.b.size (λg e=>by have:=hr g e;have:=h.ge;have:=h.gpl;omega),YL h.tH hg.size,h.gpb,h.blo,h.lh,h.ge,h.gpl⟩
end
structure UI(n:Nat)(B:Nat->Nat)(M:Nat->It)(gp lo hi:Nat)(v:Value)(rows:List (List Nat))(gu gb:Nat)(w:World)(p:Nat->Int×Int×Int)(q:Nat->Bool)(W:World):Prop where
 m:RO n B M gp lo hi v rows w W
 u:lq W gu 40 (ow p n).toArray
 bo:lq W gb 4 (oH q n).toArray
 hu:hi<=gu
 ub:gu<gb
theorem RO.lQ{n gp lo hi:Nat}{B:Nat->Nat}{M:Nat->It}{v:Value}{rows:List (List Nat)}{w W:World}(h:RO n B M gp lo hi v rows w W){p:Addr}(hp:hi<=p.block)(u:Value):RO n B M gp lo hi v rows w (W.setCell p u):=by
 have hl:=h.lh;have hk:Kp (λg=>hi<=g) W (W.setCell p u):=(Kp.refl _ W).setCell (bad:=λg=>hi<=g) (.inl hp) u;have hg:=h.gpl;refine⟨h.pt.kp hk (λe=>by have:hi<=gp:=e;omega),⟨λk pz=>(h.its.b k pz).kp hk (λe=>by have:hi<=B k:=e;have:=h.blo k pz;omega),h.its.inj⟩,h.rws.keep (λq h1 h2=>hk.cell (by have:=h.tH;omega) (λe=>by have:hi<=q.block:=e;omega)),
  h.b.trans (hk.below (λg e=>by have:hi<=g:=e;have:=h.ge;omega) h.b.size),YL h.tH hk.size,h.gpb,h.blo,h.lh,h.ge,h.gpl⟩
section
variable{n gp lo hi gu gb k:Nat}{B:Nat->Nat}{M:Nat->It}{v:Value}{rows:List (List Nat)}{w W W':World}{p p2:Nat->Int×Int×Int}{q:Nat->Bool}{a:Int}{b:Bool}
theorem UI.lR(h:UI n B M gp lo hi v rows gu gb w p q W)(hb:Below W.heap.size W W'):UI n B M gp lo hi v rows gu gb w p q W':=
 ⟨h.m.lR hb,h.u.below hb h.u.lt,h.bo.below hb h.bo.lt,h.hu,h.ub⟩
theorem UI.put(h:UI n B M gp lo hi v rows gu gb w p q W)(i:Nat)(x:Value)(e:(ow p n).toArray.setIfInBounds i x=(ow p2 n).toArray):UI n B M gp lo hi v rows gu gb w p2 q (W.setCell (gu,i) x):=
 ⟨h.m.lQ h.hu x,by rw[<-e];exact h.u.lA i x,h.bo.lQ (by have:=h.ub;show gb≠gu;omega) x,h.hu,h.ub⟩
end
end
section
attribute [local go_sem] lp
theorem mul_in(c n:Int)(hc:CB c)(hn: -100000<=n/\n<=100000): -110000000000000000<=c*n/\c*n<=110000000000000000:=by
 have h1:(c*n).natAbs<=1099511627776*100000:=by rw[Int.natAbs_mul];have:=hc.b;exact aB6 (by omega) (by omega)
 omega
theorem QP(a:Int)(w:World)(ha: -110000000000000000<=a/\a<=110000000000000000): Calls prog 140 #[.int .i64 a,.int .i64 10000] w λe w'=>e= .returned (.int .i64 (a / 10000))/\w=w':=by
 obtain⟨T,hT⟩:∃T,a.tdiv 10000=T:=⟨_,rfl⟩;obtain⟨M,hM⟩:∃M,a.tmod 10000=M:=⟨_,rfl⟩;obtain⟨f1,f2,f3⟩:=Gq a T M hT hM;have wT:IntKind.i64.wrap T=T:=YG _ ⟨by omega,by omega⟩;have wM:IntKind.i64.wrap M=M:=YG _ ⟨by omega,by omega⟩;have w4:IntKind.i64.wrap (T-1)=T-1:=YG _ ⟨by omega,by omega⟩;cases e1:decide (M<0)
 ·have F:=X6 (f3 (YS e1));clear f1 f2 f3 ha;go_enter func140,ntmps140;go_wp2_with fail;go_ret;exact⟨by rw[<-F.out];rfl,rfl⟩
 ·have F:=X6 (f2 (YZ e1));clear f1 f2 f3 ha;go_enter func140,ntmps140;go_wp2_with fail;go_ret;exact⟨by rw[<-F.out];rfl,rfl⟩
theorem vJ(k n c:Int)(w:World)(hl:vz ⟨k,n⟩)(hc:CB c): Calls prog 84 #[.agg #[.int .u8 k,n],.int .i64 c] w λe w'=>e= .returned (.tuple #[.int .i64 (mj ⟨k,n⟩ c).1,.bool (mj ⟨k,n⟩ c).2])/\w.alloc (.cells #[.int .u8 k,n] 58)=w':=by
 have hmx:max c 0=c:=by have:=hc.b;omega
 have Pk:decide (c<0)=false:=X9 (by have:=hc.b;omega);have hm3:(if 0<=c then c else 0)=c:=YP hc.b.1;by_cases h2:k=2
 ·have e2:(k == 2)=true:=ZR.2 h2;have e1:(k == 1)=false:=by subst h2;rfl
  have HE:Hid (mj ⟨k,n⟩ c=(c*n / 10000,true)):=X6 (YP h2);have HP:=X6 (hl.p h2);have HC:=X6 hc;clear h2 hl hc;have hb:=mul_in c n HC.out HP.out;have hwm:IntKind.i64.wrap (c*n)=c*n:=YG _ ⟨by omega,by omega⟩;go_enter func84,ntmps84;go_wp2_with (go_at_call 140;refine(QP (c*n) _ hb).mono ?_;rintro e w' ⟨rfl,rfl⟩);go_ret2;rw[HE.out];exact⟨rfl,rfl⟩
 ·have e2:(k == 2)=false:=ZO.2 h2;by_cases h1:k=1
  ·have e1:(k == 1)=true:=ZR.2 h1;have HE:Hid (mj ⟨k,n⟩ c=(n,true)):=X6 (by unfold mj;rw[YO h2,YP h1]);clear h2 h1 hl hc;go_enter func84,ntmps84;go_wp2_with fail;go_ret2;rw[HE.out];exact⟨rfl,rfl⟩
  ·have e1:(k == 1)=false:=ZO.2 h1;have HE:Hid (mj ⟨k,n⟩ c=(0,false)):=X6 (by unfold mj;rw[YO h2,YO h1]);clear h2 h1 hl hc;go_enter func84,ntmps84;go_wp2_with fail;go_ret2;rw[HE.out];exact⟨rfl,rfl⟩
theorem Ns(s:me)(c v:Int)(w:World)(h1:vz s.mz)(h2:vz s.my)(hc:CB c): Calls prog 167 #[.agg (lj s).toArray,.int .i64 c,.int .i64 v] w λe w'=>e= .returned (.int .i64 (lF s c v))/\((w.alloc (.cells (lj s).toArray 63)).alloc (.cells #[.int .u8 s.mz.k,s.mz.n] 58)).alloc (.cells #[.int .u8 s.my.k,s.my.n] 58)=w':=by
 have y8:(lj s)[8]'(by rw[lL];omega)= .int .u8 s.my.k:=rfl;have y9:(lj s)[9]'(by rw[lL];omega)= .int .i64 s.my.n:=rfl;have y10:(lj s)[10]'(by rw[lL];omega)= .int .u8 s.mz.k:=rfl;have y11:(lj s)[11]'(by rw[lL];omega)= .int .i64 s.mz.n:=rfl;have z:=qD s;have R1:=X6 (λW=>vJ s.mz.k s.mz.n c W h1 hc);have R2:=X6 (λW=>vJ s.my.k s.my.n c W h2 hc);obtain⟨m,hm⟩:∃m,m=(mj s.mz c).1:=⟨_,rfl⟩;obtain⟨b,hb⟩:∃b,b=(mj s.mz c).2:=⟨_,rfl⟩;obtain⟨m2,Pk⟩:∃m,m=(mj s.my c).1:=⟨_,rfl⟩;obtain⟨b2,mr⟩:∃b,b=(mj s.my c).2:=⟨_,rfl⟩;have e0:(⟨s.mz.k,s.mz.n⟩:Ln)=s.mz:=rfl;have e1:(⟨s.my.k,s.my.n⟩:Ln)=s.my:=rfl;rw[e0,<-hm,<-hb]at R1;rw[e1,<-Pk,<-mr]at R2;have HF:Hid (lF s c v=max (if b2 then max (if b then min v m else v) m2 else(if b then min v m else v)) 0):=X6 (by unfold lF;rw[hm,hb,Pk,mr]);clear hm hb Pk mr e0 e1 h1 h2 hc;rw[HF.out];clear HF;cases b<;>cases b2;all_goals
  go_enter func167,ntmps167;go_upto_region 2 with(go_at_call 84;refine(R1.out _).mono ?_;rintro e w' ⟨rfl,rfl⟩)
  go_wp2_with (go_at_call 84;refine(R2.out _).mono ?_;rintro e w' ⟨rfl,rfl⟩)
 all_goals
  go_ret;refine⟨?_,rfl⟩;show Ending.returned (.int .i64 _)=_;congr 2;try simp only[Z4,BT,Y9]
  try(repeat' split)
  all_goals (try omega)
end
section
attribute [local go_sem] lp
def nN(s:me)(a b c d e:Int):List Value:=lj s++[.int .i64 a,.int .i64 b,.int .i64 c,.int .i64 d,.int .i64 e,.int .i64 0,.bool false,.int .i64 0]
def wW(x:It):List Value:=nN x.s x.left x.right x.mY x.base x.guess
def Bo(M:Nat->It)(n:Nat):List Value:=(List.range n).flatMap λk=>wW (M k)
theorem sK(M:Nat->It)(n:Nat):Bo M (n+1)=Bo M n++wW (M n):=by simp[Bo,Xb]
theorem ri_set(s:me):yG (nN J8 0 0 0 0 0).toArray 0 (lj s)=(nN s 0 0 0 0 0).toArray:=
 yV (lj s) (lj J8) [] [.int .i64 0,.int .i64 0,.int .i64 0,.int .i64 0,.int .i64 0,.int .i64 0,.bool false,.int .i64 0] (by rw[lL,lL])
theorem ri_len(s:me)(a b c d e:Int):(nN s a b c d e).length=51:=rfl
theorem PB:El prog 219 223 (.agg (nN J8 0 0 0 0 0).toArray) 51 384:=⟨underlying219,by kernel_rfl,rfl,by decide⟩
structure XL(B g:Nat)(n i:Nat)(M:Nat->It)(v:Value)(y:List Value)(w W:World):Prop where
 own:W.ownsRow B 223 51 v i (Bo M i)
 it:lq W g 223 y.toArray
 b:Below B w W
 ge:B<=g
 lo:B<=W.heap.size
 ne:v.ownBlock≠some g
section
variable{B g n i:Nat}{M:Nat->It}{v:Value}{y y2:List Value}{w W W':World}
theorem XL.lR(h:XL B g n i M v y w W)(hb:Below W.heap.size W W'):XL B g n i M v y w W':=
 ⟨lG h.own hb,h.it.below hb h.it.lt,h.b.trans (hb.mono h.lo),h.ge,YL h.lo hb.size,h.ne⟩
theorem XL.set(h:XL B g n i M v y w W)(j:Nat)(u:Value)(e:y.toArray.setIfInBounds j u=y2.toArray):XL B g n i M v y2 w (W.setCell (g,j) u):=
 ⟨ZP h.own (a:=⟨g,j,none⟩) h.ne u,by rw[<-e];exact h.it.lA j u,h.b.setCell (p:=(g,j)) h.ge u,h.ge,by have:=h.lo;simpa[World.setCell]using this,h.ne⟩
theorem XL.sets(h:XL B g n i M v y w W)(o:Nat)(vs:List Value)(e:yG y.toArray o vs=y2.toArray):XL B g n i M v y2 w (W.setCells g o vs):=
 ⟨AB h.ne vs o W h.own,by rw[<-e];exact lq.setCells vs o W _ h.it,mQ h.ge vs o _ _ h.b,h.ge,by rw[yh];exact h.lo,h.ne⟩
end
theorem Sy{w:World}{g:Nat}{t:TypeId}{cs:Array Value}{k:Nat}(h:lq w g t cs)(hk:k<=cs.size):w.there g 0 k:=λj hj=>by
 rw[ZX,h.cell j,Z5 (by omega)];exact⟨rfl,h.frozen j⟩
theorem Dl{W:World}{g:Nat}{s:me}{a b c d e:Int}(hb:lq W g 223 (nN s a b c d e).toArray):W.rangeAt g 0 (lj s):=rk hb λj v hv=>by
 rw[ZX];unfold nN;rw[YN (by have:=(YT.1 hv).1;exact this)];exact hv
theorem CH{s:me}{a b c d e:Int}(h:(lj s).toArray.all (·.oneCell')=true):∀u∈nN s a b c d e,u.oneCell'=true:=λu hu=>by
 unfold nN at hu;rcases YW.1 hu with h1 | h1
 ·exact aDP.1 h u (by simpa using h1)
 ·simp at h1;rcases h1 with rfl | rfl | rfl | rfl | rfl | rfl | rfl | rfl<;>rfl
theorem yr(l:Ln)(c:Int)(w:World)(hl:vz l)(hc:CB c):Calls prog 84 #[.agg #[.int .u8 l.k,l.n],c] w (oD (.tuple #[.int .i64 (mj l c).1,.bool (mj l c).2]) w):=
 (vJ l.k l.n c w hl hc).mono λ_ _ ⟨he,hw⟩=>⟨he,hw▸UH (ZN _ _) _⟩
theorem Li(s:me)(c v:Int)(w:World)(h1:vz s.mz)(h2:vz s.my)(hc:CB c):Calls prog 167 #[.agg (lj s).toArray,c,v] w (oD (.int .i64 (lF s c v)) w):=
 (Ns s c v w h1 h2 hc).mono λ_ _ ⟨he,hw⟩=>⟨he,hw▸UH (UH (UH (ZN _ _) _) _) _⟩
theorem Dz(c:Int)(l:List me)(got:List Cn)(A Ag:Option Addr)(ck cg:Nat)(w:World)(hn:l.length<=1000)(hr:Reads w w.heap.size 43 A l.length (nh l))(huv:∀s∈l,∃Au nu cu,s.uv= .slice Au nu cu) (hg:Reads w w.heap.size 4 Ag got.length (ly got)) (hc:CB c) (hs:∀s∈l,UA s) (BR:∀x∈got,0<=x.lC/\x.lC<=1099511627776): Calls prog 136 #[.int .i64 c,.slice A l.length ck,.slice Ag got.length cg] w λe w'=>(∃v,e= .returned v/\w'.ownsRow w.heap.size 223 51 v l.length (Bo (xr l c got) l.length))/\Below w.heap.size w w':=by
 have HR:=X6 hr;have HG:=X6 hg;have B9:=X6 huv;have HC:=X6 hc;have HS:=X6 hs;have HGB:=X6 (Mz BR);clear hr hg huv hc hs BR;obtain⟨n,mI⟩:∃n,n=l.length:=⟨_,rfl⟩;rw[<-mI]at HR hn⊢;have HN:=X6 mI;clear mI;obtain⟨m,Dd⟩:∃m,m=got.length:=⟨_,rfl⟩;rw[<-Dd]at HG⊢;have HM:=X6 Dd;clear Dd;go_enter func136,ntmps136;go_wp2_with fail;go_loopw [7,8] (λv kv wr=>∃i:Nat,i<=n/\kv= .int .i64 i/\Hid (wr.ownsRow w.heap.size 223 51 v i (Bo (xr l c got) i)/\Below w.heap.size w wr)) (λ_ kv _=>n-(intOf kv).toNat);case atStart=>exact⟨0,by omega,rfl,X6 ⟨YV _ _ _ _,ZN _ _⟩⟩
 case round=>
  obtain⟨i,hi,rfl,H⟩:=hrel;obtain⟨A7,c7,hv7⟩:=lZ H.1;subst hv7;by_cases lN:i<n;rotate_left
  ·have g0:decide ((i:Int)<(n:Int))=false:=X9 (by omega);have J9:decide (i<n)=false:=X9 lN;have SM:i=n:=(by omega);rw[SM]at H⊢;clear SM lN J9;have J9:decide (n<n)=false:=X9 (by omega);go_wp2_with fail;go_ret;exact⟨⟨_,rfl,H.1⟩,H.2⟩
  have g0:decide ((i:Int)<(n:Int))=true:=YC (by omega);have J9:decide (i<n)=true:=YC lN;have Fe:(i:Int)<(n:Int):=by omega
  have zD:(0:Int)<=(i:Int):=by omega
  have wk:IntKind.i64.wrap ((i:Int)+1)=(i:Int)+1:=YG _ ⟨by omega,by omega⟩;have tQ:i<l.length:=by rw[<-HN.out];exact lN
  obtain⟨ad,rfl,Fg⟩:=HR.st HN.out tQ;obtain⟨s,uH⟩:∃s,s=l[i]:=⟨_,rfl⟩;have HLD0:Hid (∀W,Below w.heap.size w W->∀j u,(lj s)[j]? =some u->W.cell? ((ad.add (i*43)).add j)=some u):=X6 (λW hb j u hu=>by obtain⟨Rv,e,hb,hcc⟩:=(HR.below hb).2 (by omega);injection e with e;subst e;have hj:j<43:=(by have:=(YT.1 hu).1;rw[lL]at this;exact this);rw[mJ];exact hcc _ u (by rw[sC l i j tQ hj,<-uH];exact hu));obtain⟨Au,nu,cu,huv⟩:=B9.out l[i] (YJ tQ);rw[<-uH]at huv;have HO:=X6 (me.one s huv);have LY:Hid (UA s):=X6 (by rw[uH];exact HS.out l[i] (YJ tQ));obtain⟨x,hx⟩:∃x,x=xr l c got i:=⟨_,rfl⟩;have HX:Hid (x=PG s c (qy got i).lC):=X6 (by rw[hx];unfold xr;rw[Jp tQ,<-uH]);have HXI:=X6 hx;clear Fg uH huv hx;go_upto_region 6 with(fail);obtain⟨gi,QT⟩:∃gi,gi=wr.heap.size:=⟨_,rfl⟩;have H3:Hid (XL w.heap.size gi n i (xr l c got) (.slice A7 i c7) (nN J8 0 0 0 0 0) w (wr.alloc (.cells (nN J8 0 0 0 0 0).toArray 223))):=X6
   ⟨lG H.1 (UH (ZN _ _) _),lq.at_ _ _ _ QT,UH H.2 _,by rw[QT];exact H.2.size,YL H.2.size (by simp),λe=>by have:=(H.1.lt gi e).2;omega⟩
  change Code.wp prog _ _ _ (wr.alloc (.cells (nN J8 0 0 0 0 0).toArray 223));rw[<-QT];obtain⟨w3,zB⟩:∃w3,w3=wr.alloc (.cells (nN J8 0 0 0 0 0).toArray 223):=⟨_,rfl⟩;rw[<-zB]at H3⊢;clear zB QT;have xS:=X6 (HLD0.out w3 H3.b);have HTH:=X6 (Sy (k:=43) H3.it (by rw[Z1,ri_len];omega));go_upto_region 7 with(first
   | refine nK rfl 63 _ rfl _ rfl (lj s) _ xS.out underlying63 rfl (by kernel_rfl) ?_
   | refine wpList_store_mid rfl 63 _ _ rfl gi 0 (lj s).toArray rfl rfl HTH.out (by kernel_rfl) HO.out ?_)
  have H4:=X6 (H3.sets (y2:=nN s 0 0 0 0 0) 0 (lj s) (ri_set s));change Code.wp prog _ _ _ (w3.setCells gi 0 (lj s));obtain⟨w4,wg⟩:∃w4,w4=w3.setCells gi 0 (lj s):=⟨_,rfl⟩;rw[<-wg]at H4⊢;clear wg xS HTH HLD0 H3 H;obtain⟨p3,hp3⟩:∃p,p=mj s.m3 c:=⟨_,rfl⟩;obtain⟨p1,Nw⟩:∃p,p=mj s.m1 c:=⟨_,rfl⟩;obtain⟨pb,S8⟩:∃p,p=mj s.basis c:=⟨_,rfl⟩;obtain⟨pw,hpw⟩:∃p,p=mj s.w c:=⟨_,rfl⟩;obtain⟨fr,hfr⟩:∃fr,fr=mS s:=⟨_,rfl⟩;have b3:=nP LY.m3 HC.out;have b1:=nP LY.m1 HC.out;have bf:0<=mS s/\mS s<=4398046511104:=by have h:=LY.b;have h1:=h.b1;have h2:=h.b3;have h3:=h.p1;have h4:=h.p3;unfold mS;omega
  have vV:=X6 (λW=>yr s.m3 c W LY.m3 HC.out);have sI:=X6 (λW=>yr s.m1 c W LY.m1 HC.out);have Dc:=X6 (λW=>yr s.basis c W LY.basis HC.out);have xV:=X6 (λW=>yr s.w c W LY.w HC.out);have AK:=X6 (λW=>vu s W LY.b);have Cb:=X6 (λW v=>Li s c v W LY.mz LY.my HC.out);rw[<-hp3]at b3 vV;rw[<-Nw]at b1 sI;rw[<-S8]at Dc;rw[<-hpw]at xV;rw[<-hfr]at bf AK;have HXE:Hid (∀base,base=(if pb.2 then pb.1 else if pw.2 then pw.1 else(qy got i).lC)->wW x=nN s p3.1 p1.1 (p3.1+p1.1+fr) base (lF s c base)):=X6 (λbase hb=>by have e:EN s c (qy got i).lC=base:=(by unfold EN;rw[<-S8,<-hpw,hb]);rw[HX.out];unfold wW PG;rw[e,<-hp3,<-Nw,<-hfr]);have G6:Hid (pw.2=false->pw.1=0):=X6 (by rw[hpw];exact res_no s.w c);clear hp3 Nw S8 hpw hfr;obtain⟨L,hL⟩:∃L,L=p3.1:=⟨_,rfl⟩;obtain⟨R,hR⟩:∃R,R=p1.1:=⟨_,rfl⟩;rw[<-hL]at b3 vV HXE;rw[<-hR]at b1 sI HXE;clear hL hR;have w1:IntKind.i64.wrap (L+R)=L+R:=YG _ ⟨by omega,by omega⟩;have w2:IntKind.i64.wrap (L+R+fr)=L+R+fr:=YG _ ⟨by omega,by omega⟩;have c1:w4.cell? (gi,22)=some (.int .u8 s.m3.k):=H4.it.get 22 rfl;have c2:w4.cell? (gi,23)=s.m3.n:=H4.it.get 23 rfl;go_upto_region 8 with(go_at_call 84;refine(vV.out _).mono ?_;rintro e w5 ⟨rfl,wE⟩;have H5:=X6 (H4.lR wE);clear wE;have q1:w5.cell? (gi,43)=lx:=H5.it.get 43 rfl;have q2:=H5.it.frozen 43)
  clear c1 c2 q1 q2;have H6:=X6 (H5.set (y2:=nN s L 0 0 0 0) 43 (.int .i64 L) rfl);obtain⟨w6,Iz⟩:∃w6,w6=w5.setCell (gi,43) L:=⟨_,rfl⟩;rw[<-Iz]at H6⊢;clear Iz;have c1:w6.cell? (gi,18)=some (.int .u8 s.m1.k):=H6.it.get 18 rfl;have c2:w6.cell? (gi,19)=s.m1.n:=H6.it.get 19 rfl;go_upto_region 9 with(go_at_call 84;refine(sI.out _).mono ?_;rintro e w7 ⟨rfl,qk⟩;have H7:=X6 (H6.lR qk);clear qk;have q1:w7.cell? (gi,44)=lx:=H7.it.get 44 rfl;have q2:=H7.it.frozen 44)
  clear c1 c2 q1 q2;have H8:=X6 (H7.set (y2:=nN s L R 0 0 0) 44 (.int .i64 R) rfl);obtain⟨w8,hw8⟩:∃w8,w8=w7.setCell (gi,44) R:=⟨_,rfl⟩;rw[<-hw8]at H8⊢;clear hw8;have pP:=X6 (Dl H8.it);go_upto_region 10 with(first
   | refine wpList_load_mid rfl 63 (.tmp 46) rfl gi 0 rfl (lj s) _ pP.out underlying63 rfl (by kernel_rfl) ?_
   | (go_at_call 82;refine(AK.out _).mono ?_;rintro e w9 ⟨⟨d,rfl⟩,mH⟩;have H9:=X6 (H8.lR mH);clear mH))
  clear pP;have c1:w9.cell? (gi,43)=L:=H9.it.get 43 rfl;have c2:w9.cell? (gi,44)=R:=H9.it.get 44 rfl;have q1:w9.cell? (gi,45)=lx:=H9.it.get 45 rfl;have q2:=H9.it.frozen 45;go_upto_region 11 with(fail)
  clear c1 c2 q1 q2;have H10:=X6 (H9.set (y2:=nN s L R (L+R+fr) 0 0) 45 (.int .i64 (L+R+fr)) rfl);obtain⟨sy,UD⟩:∃sy,sy=w9.setCell (gi,45) (.int .i64 (L+R+fr)):=⟨_,rfl⟩;rw[<-UD]at H10⊢;clear UD;have c1:sy.cell? (gi,40)=some (.int .u8 s.basis.k):=H10.it.get 40 rfl;have c2:sy.cell? (gi,41)=s.basis.n:=H10.it.get 41 rfl;go_upto_region 12 with(go_at_call 84;refine(Dc.out _).mono ?_;rintro e xM ⟨rfl,wh⟩;have H11:=X6 (H10.lR wh);clear wh)
  clear c1 c2 w1 w2;obtain⟨B1,JP⟩:∃B1,B1=pb.1:=⟨_,rfl⟩;obtain⟨b2,mr⟩:∃b2,b2=pb.2:=⟨_,rfl⟩;obtain⟨W1,Yr⟩:∃W1,W1=pw.1:=⟨_,rfl⟩;obtain⟨v2,E4⟩:∃v2,v2=pw.2:=⟨_,rfl⟩;rw[<-JP,<-mr]at HXE⊢;rw[<-Yr,<-E4]at HXE xV G6;clear JP mr Yr E4;cases b2;rotate_left
  ·have B6:=X6 (HXE.out B1 rfl);go_upto_region 16 with(fail)
   have q1:xM.cell? (gi,46)=lx:=H11.it.get 46 rfl;have q2:=H11.it.frozen 46;go_upto_region 17 with(fail)
   clear q1 q2;have ND:=X6 (H11.set (y2:=nN s L R (L+R+fr) B1 0) 46 (.int .i64 B1) rfl);obtain⟨TD,DN⟩:∃TD,TD=xM.setCell (gi,46) B1:=⟨_,rfl⟩;rw[<-DN]at ND⊢;clear DN;have pP:=X6 (Dl ND.it);go_upto_region 18 with(first
    | refine wpList_load_mid rfl 63 (.tmp 92) rfl gi 0 rfl (lj s) _ pP.out underlying63 rfl (by kernel_rfl) ?_
    | (go_at_call 167;refine(Cb.out _ _).mono ?_;rintro e SZ ⟨rfl,AG⟩;have MI:=X6 (ND.lR AG);clear AG;have q1:SZ.cell? ⟨gi,47,none⟩=some (.int .i64 0):=MI.it.get 47 rfl;have q2:=MI.it.frozen 47))
   clear q1 q2 pP;have Du:=X6 (MI.set (y2:=wW x) 47 (.int .i64 (lF s c B1)) (by rw[B6.out];rfl));obtain⟨EA,EX⟩:∃EA,EA=SZ.setCell (gi,47) (.int .i64 (lF s c B1)):=⟨_,rfl⟩;rw[<-EX]at Du⊢;clear EX;have Mb:Hid (∀u∈wW x,u.oneCell'=true):=X6 (by rw[B6.out];exact CH HO.out);have ru:Hid ((wW x).length=51):=X6 (by rw[B6.out];rfl);have Gf:=X6 (show EA.rangeAt gi 0 (wW x)from rk Du.it λj v hv=>by rw[ZX];exact hv);go_wp2_with (first
    | refine wpList_load_mid rfl 223 (.tmp 9) rfl gi 0 rfl (wW x) _ Gf.out underlying223 rfl (by rw[ru.out];kernel_rfl) ?_
    | refine qQ rfl 219 1 #[(0,.tmp 99)] rfl (.slice (some ⟨EA.heap.size,0,none⟩) 1 1) (EA.alloc (.cells (wW x).toArray 223)) (by rw[B6.out];kernel_rfl) ?_
    | (at_builtin;refine lM (m:=1) rfl _ _ rfl PB Du.own Du.lo rfl (wW x) rfl (by rw[ru.out]) Mb.out (by omega) (by omega) ?_;intro A8 c8 w24 tJ PU Zz _;have Wc:=X6 (And.intro tJ (PU _ _ (X7 _) Du.b));clear tJ PU Zz))
   go_roundw;case rel=>exact⟨i+1,by omega,by go_num,X6 ⟨by rw[sK,<-HXI.out];exact Wc.1,Wc.2⟩⟩
   case measure=>simp[intOf]<;>omega
  have c1:xM.cell? (gi,4)=some (.int .u8 s.w.k):=H11.it.get 4 rfl;have c2:xM.cell? (gi,5)=s.w.n:=H11.it.get 5 rfl;go_upto_region 14 with(go_at_call 84;refine(xV.out _).mono ?_;rintro e LV ⟨rfl,uQ⟩;have Sx:=X6 (H11.lR uQ);clear uQ)
  clear c1 c2;cases v2;rotate_left
  ·have B6:=X6 (HXE.out W1 rfl);go_upto_region 16 with(fail)
   have q1:LV.cell? (gi,46)=lx:=Sx.it.get 46 rfl;have q2:=Sx.it.frozen 46;go_upto_region 17 with(fail)
   clear q1 q2;have ND:=X6 (Sx.set (y2:=nN s L R (L+R+fr) W1 0) 46 (.int .i64 W1) rfl);obtain⟨TD,DN⟩:∃TD,TD=LV.setCell (gi,46) W1:=⟨_,rfl⟩;rw[<-DN]at ND⊢;clear DN;have pP:=X6 (Dl ND.it);go_upto_region 18 with(first
    | refine wpList_load_mid rfl 63 (.tmp 92) rfl gi 0 rfl (lj s) _ pP.out underlying63 rfl (by kernel_rfl) ?_
    | (go_at_call 167;refine(Cb.out _ _).mono ?_;rintro e SZ ⟨rfl,AG⟩;have MI:=X6 (ND.lR AG);clear AG;have q1:SZ.cell? ⟨gi,47,none⟩=some (.int .i64 0):=MI.it.get 47 rfl;have q2:=MI.it.frozen 47))
   clear q1 q2 pP;have Du:=X6 (MI.set (y2:=wW x) 47 (.int .i64 (lF s c W1)) (by rw[B6.out];rfl));obtain⟨EA,EX⟩:∃EA,EA=SZ.setCell (gi,47) (.int .i64 (lF s c W1)):=⟨_,rfl⟩;rw[<-EX]at Du⊢;clear EX;have Mb:Hid (∀u∈wW x,u.oneCell'=true):=X6 (by rw[B6.out];exact CH HO.out);have ru:Hid ((wW x).length=51):=X6 (by rw[B6.out];rfl);have Gf:=X6 (show EA.rangeAt gi 0 (wW x)from rk Du.it λj v hv=>by rw[ZX];exact hv);go_wp2_with (first
    | refine wpList_load_mid rfl 223 (.tmp 9) rfl gi 0 rfl (wW x) _ Gf.out underlying223 rfl (by rw[ru.out];kernel_rfl) ?_
    | refine qQ rfl 219 1 #[(0,.tmp 99)] rfl (.slice (some ⟨EA.heap.size,0,none⟩) 1 1) (EA.alloc (.cells (wW x).toArray 223)) (by rw[B6.out];kernel_rfl) ?_
    | (at_builtin;refine lM (m:=1) rfl _ _ rfl PB Du.own Du.lo rfl (wW x) rfl (by rw[ru.out]) Mb.out (by omega) (by omega) ?_;intro A8 c8 w24 tJ PU Zz _;have Wc:=X6 (And.intro tJ (PU _ _ (X7 _) Du.b));clear tJ PU Zz))
   go_roundw;case rel=>exact⟨i+1,by omega,by go_num,X6 ⟨by rw[sK,<-HXI.out];exact Wc.1,Wc.2⟩⟩
   case measure=>simp[intOf]<;>omega
  obtain⟨G,hG⟩:∃G,G=(qy got i).lC:=⟨_,rfl⟩;have B6:=X6 (HXE.out G (by rw[hG];rfl));by_cases wF:i<m
  ·have m0:decide ((i:Int)<(m:Int))=true:=YC (by omega);have m0':decide (i<m)=true:=YC wF;have hmi:(i:Int)<(m:Int):=(by omega);obtain⟨ag,rfl,qu,x0,x1,x2,x3⟩:=((HG.below Sx.b)).cn HM.out (show i<got.length by rw[<-HM.out];exact wF);have hye:(got[i]'(by rw[<-HM.out];exact wF)).lC=G:=(by rw[hG];unfold qy;rw[YH (by rw[<-HM.out];exact wF)];rfl);rw[hye]at x1;clear hye hG x0 x2 x3;go_upto_region 16 with(fail)
   clear x1;have q1:LV.cell? (gi,46)=lx:=Sx.it.get 46 rfl;have q2:=Sx.it.frozen 46;go_upto_region 17 with(fail)
   clear q1 q2;have ND:=X6 (Sx.set (y2:=nN s L R (L+R+fr) G 0) 46 (.int .i64 G) rfl);obtain⟨TD,DN⟩:∃TD,TD=LV.setCell (gi,46) G:=⟨_,rfl⟩;rw[<-DN]at ND⊢;clear DN;have pP:=X6 (Dl ND.it);go_upto_region 18 with(first
    | refine wpList_load_mid rfl 63 (.tmp 92) rfl gi 0 rfl (lj s) _ pP.out underlying63 rfl (by kernel_rfl) ?_
    | (go_at_call 167;refine(Cb.out _ _).mono ?_;rintro e SZ ⟨rfl,AG⟩;have MI:=X6 (ND.lR AG);clear AG;have q1:SZ.cell? ⟨gi,47,none⟩=some (.int .i64 0):=MI.it.get 47 rfl;have q2:=MI.it.frozen 47))
   clear q1 q2 pP;have Du:=X6 (MI.set (y2:=wW x) 47 (.int .i64 (lF s c G)) (by rw[B6.out];rfl));obtain⟨EA,EX⟩:∃EA,EA=SZ.setCell (gi,47) (.int .i64 (lF s c G)):=⟨_,rfl⟩;rw[<-EX]at Du⊢;clear EX;have Mb:Hid (∀u∈wW x,u.oneCell'=true):=X6 (by rw[B6.out];exact CH HO.out);have ru:Hid ((wW x).length=51):=X6 (by rw[B6.out];rfl);have Gf:=X6 (show EA.rangeAt gi 0 (wW x)from rk Du.it λj v hv=>by rw[ZX];exact hv);go_wp2_with (first
    | refine wpList_load_mid rfl 223 (.tmp 9) rfl gi 0 rfl (wW x) _ Gf.out underlying223 rfl (by rw[ru.out];kernel_rfl) ?_
    | refine qQ rfl 219 1 #[(0,.tmp 99)] rfl (.slice (some ⟨EA.heap.size,0,none⟩) 1 1) (EA.alloc (.cells (wW x).toArray 223)) (by rw[B6.out];kernel_rfl) ?_
    | (at_builtin;refine lM (m:=1) rfl _ _ rfl PB Du.own Du.lo rfl (wW x) rfl (by rw[ru.out]) Mb.out (by omega) (by omega) ?_;intro A8 c8 w24 tJ PU Zz _;have Wc:=X6 (And.intro tJ (PU _ _ (X7 _) Du.b));clear tJ PU Zz))
   go_roundw;case rel=>exact⟨i+1,by omega,by go_num,X6 ⟨by rw[sK,<-HXI.out];exact Wc.1,Wc.2⟩⟩
   case measure=>simp[intOf]<;>omega
  ·have m0:decide ((i:Int)<(m:Int))=false:=X9 (by omega);have m0':decide (i<m)=false:=X9 wF;have hG0:G=0:=(by rw[hG];unfold qy;rw[ZG (by rw[<-HM.out];omega)];rfl);clear B6;have B6:=X6 (HXE.out W1 (by show W1=(qy got i).lC;rw[G6.out rfl,<-hG,hG0]));clear hG hG0;go_upto_region 16 with(fail)
   have q1:LV.cell? (gi,46)=lx:=Sx.it.get 46 rfl;have q2:=Sx.it.frozen 46;go_upto_region 17 with(fail)
   clear q1 q2;have ND:=X6 (Sx.set (y2:=nN s L R (L+R+fr) W1 0) 46 (.int .i64 W1) rfl);obtain⟨TD,DN⟩:∃TD,TD=LV.setCell (gi,46) W1:=⟨_,rfl⟩;rw[<-DN]at ND⊢;clear DN;have pP:=X6 (Dl ND.it);go_upto_region 18 with(first
    | refine wpList_load_mid rfl 63 (.tmp 92) rfl gi 0 rfl (lj s) _ pP.out underlying63 rfl (by kernel_rfl) ?_
    | (go_at_call 167;refine(Cb.out _ _).mono ?_;rintro e SZ ⟨rfl,AG⟩;have MI:=X6 (ND.lR AG);clear AG;have q1:SZ.cell? ⟨gi,47,none⟩=some (.int .i64 0):=MI.it.get 47 rfl;have q2:=MI.it.frozen 47))
   clear q1 q2 pP;have Du:=X6 (MI.set (y2:=wW x) 47 (.int .i64 (lF s c W1)) (by rw[B6.out];rfl));obtain⟨EA,EX⟩:∃EA,EA=SZ.setCell (gi,47) (.int .i64 (lF s c W1)):=⟨_,rfl⟩;rw[<-EX]at Du⊢;clear EX;have Mb:Hid (∀u∈wW x,u.oneCell'=true):=X6 (by rw[B6.out];exact CH HO.out);have ru:Hid ((wW x).length=51):=X6 (by rw[B6.out];rfl);have Gf:=X6 (show EA.rangeAt gi 0 (wW x)from rk Du.it λj v hv=>by rw[ZX];exact hv);go_wp2_with (first
    | refine wpList_load_mid rfl 223 (.tmp 9) rfl gi 0 rfl (wW x) _ Gf.out underlying223 rfl (by rw[ru.out];kernel_rfl) ?_
    | refine qQ rfl 219 1 #[(0,.tmp 99)] rfl (.slice (some ⟨EA.heap.size,0,none⟩) 1 1) (EA.alloc (.cells (wW x).toArray 223)) (by rw[B6.out];kernel_rfl) ?_
    | (at_builtin;refine lM (m:=1) rfl _ _ rfl PB Du.own Du.lo rfl (wW x) rfl (by rw[ru.out]) Mb.out (by omega) (by omega) ?_;intro A8 c8 w24 tJ PU Zz _;have Wc:=X6 (And.intro tJ (PU _ _ (X7 _) Du.b));clear tJ PU Zz))
   go_roundw;case rel=>exact⟨i+1,by omega,by go_num,X6 ⟨by rw[sK,<-HXI.out];exact Wc.1,Wc.2⟩⟩
   case measure=>simp[intOf]<;>omega
end
section
attribute [local go_sem] lp
structure LM(w:World)(B:Nat)(A:Option Addr)(rows:List (List Nat)):Prop where
 at_:∀r,r<rows.length->∃g Ar cr,A=some ⟨g,0,none⟩/\g<B/\w.cell? ⟨g,r,none⟩=some (.slice Ar (rowAt rows r).length cr)/\Reads w B 1 Ar (rowAt rows r).length (nM (rowAt rows r))
theorem qa.x{w:World}{lo B n c:Nat}{A:Option Addr}{rows:List (List Nat)}(h:qa w lo B (.slice A n c) rows):LM w B A rows:=by obtain⟨A',c',e,_,hx⟩:=h.ex;injection e with e1 e2 e3;subst e1;refine⟨λr hr=>?_⟩;obtain⟨g,hA,_,hB,hp⟩:=hx (by omega);obtain⟨Ar,cr,h1,_,h2,_⟩:=hp r hr;exact⟨g,Ar,cr,hA,hB,h1,h2⟩
theorem LM.below{w w':World}{B:Nat}{A:Option Addr}{rows:List (List Nat)}(h:LM w B A rows)(hb:Below B w w'):LM w' B A rows:=⟨λr hr=>by
 obtain⟨g,Ar,cr,h1,h2,h3,h4⟩:=h.at_ r hr;exact⟨g,Ar,cr,h1,h2,(hb.cell (p:=(g,r)) h2).trans h3,h4.below hb⟩⟩
theorem zt{rows:List (List Nat)}(h:∀r∈rows,r≠[]):rows.length<=rows.flatten.length:=by
 induction rows with
 | nil=>simp
 | cons a t ih=>have h1:=ih λr hr=>h r (by simp[hr]);have h3:=aCQ.2 (h a (by simp));rw[aAG,YM,ZA];omega
theorem Pp(M:Nat->It):∀(n k j:Nat),k<n->j<51->(Bo M n)[k*51+j]? =(wW (M k))[j]?
 | 0,k,j,h,_=>by omega
 | n+1,k,j,h,hj=>by
  have hl:∀n,(Bo M n).length=n*51:=λn=>by
   induction n with
   | zero=>rfl
   | succ n ih=>rw[sK,YM,ih];show n*51+51=_;omega
  rw[sK];by_cases e:k=n
  ·subst e;rw[YQ (by rw[hl];omega),hl,show k*51+j-k*51=j by omega]
  ·rw[YN (by rw[hl];omega)];exact Pp M n k j (by omega) hj
theorem Reads.ri{W:World}{B n k:Nat}{A:Option Addr}{M:Nat->It}(h:Reads W B 51 A n (Bo M n))(hk:k<n): ∃ad:Addr,A=some ad/\W.cell? (ad.block,(ad.add (k*51)).off+45)=some (.int .i64 (M k).mY)/\W.cell? (ad.block,(ad.add (k*51)).off+47)=some (.int .i64 (M k).guess):=by
 obtain⟨ad,e,hb,hc⟩:=h.2 (by omega);have key:∀i u,i+1<51->(wW (M k))[i+1]? =some u->W.cell? ⟨ad.block,(ad.add (k*51)).off+(i+1),none⟩=some u:=λi u hi hu=>by
  have ha:(⟨ad.block,(ad.add (k*51)).off+(i+1),none⟩:Addr)=ad.add (k*51+(i+1)):=by rw[<-mJ,show∀p:Addr,p.add (i+1)=⟨p.block,p.off+(i+1),none⟩from λp=>by unfold Addr.add;rw[YO (by omega)],lp]
  rw[ha];exact hc _ u (by rw[Pp M n k (i+1) hk hi];exact hu)
 exact⟨ad,e,key 44 _ (by omega) rfl,key 46 _ (by omega) rfl⟩
theorem WC{R:List (List Nat)}{r:Nat}(h:r<R.length):rowAt R r=R[r]:=by unfold rowAt;rw[YH h];rfl
end
end Go.Proofs.YtjhingednpjogaaGreat
