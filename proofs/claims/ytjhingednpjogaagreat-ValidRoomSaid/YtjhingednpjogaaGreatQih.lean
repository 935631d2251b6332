/- Lemmas for ValidRoom; laid together by a program. -/
import Derived.Test.YtjhingednpjogaaGreatQct
import Derived.Test.YtjhingednpjogaaGreatVos
set_option linter.all false
set_option maxRecDepth 100000
set_option maxHeartbeats 40000000
open Go.RowKit
namespace Go.Proofs.YtjhingednpjogaaGreat
open Go.Proofs.Tryz
section
attribute [local go_sem] lp
def JD(n:Nat):List Value:=List.replicate n (.slice none 0 0)
theorem Pz:El prog 214 121 (.slice none 0 0) 1 24:=⟨underlying214,by kernel_rfl,rfl,by decide⟩
theorem Xu(n:Nat)(hn:n<=1000000)(w:World):(Instr.makeSlice 214 (.int .i64 (n:Int)) (.int .i64 (n:Int))).run prog w= .ok (.slice w.heap.size n n) (w.alloc (.cells (JD n).toArray 121)):=by
 obtain⟨i,hi,hz,hs,hb⟩:=Nr Pz.info;have h:=S9 (P:=prog) (w:=w) 214 121 i _ Pz.ht hi hz .i64 .i64 (n:Int) (n:Int) (by omega) (by omega) (by rw[hs];omega) (by rw[hb];omega) (by omega);have hm:madeCells (Value.slice none 0 0).cells (n*1)=(JD n).toArray:=by apply aAZ.1;rw[aB2];show(madeCells #[.slice none 0 0] n).toList=_;rw[aA2];simp[JD]
 rw[h,hs,ZM,hm]
structure zZ(K:Qx)(tv:Value)(wK:World)(lo hi gk:Nat)(b3 b7 b9 py pB sS ug:Bool)(g7 g9 pc nW qR rA:Nat)(W:World):Prop where
 t:∃cs,tv= .agg cs/\lq W K.w0.heap.size 25 cs
 b:Below K.w0.heap.size K.w0 W
 k:b3=true->p9 wK lo hi gk K.l/\K.w0.heap.size<=lo/\hi<=W.heap.size/\∀p:Addr,lo<=p.block->p.block<hi->W.cell? p=wK.cell? p
 m7:b7=true->pq W g7 K.l.length
 m9:b9=true->pe W g9 K.l.length
 KV:py=true->pe W pc K.l.length
 J2:pB=true->pe W nW K.l.length
 Yo:sS=true->lq W qR 121 (JD K.l.length).toArray
 m17:ug=true->lq W rA 216 (rq {K with gk:=gk,go:=g7,gx:=g9,gy:=pc,gh:=nW,gr:=qR} 0 0 0 (.slice none 0 0))
 G7:b7=true->K.w0.heap.size<g7/\g7<W.heap.size/\(b3=true->g7<lo\/hi<=g7)
 G9:b9=true->K.w0.heap.size<g9/\g9<W.heap.size/\(b3=true->g9<lo\/hi<=g9)
 Ju:py=true->K.w0.heap.size<pc/\pc<W.heap.size/\(b3=true->pc<lo\/hi<=pc)
 Jg:pB=true->K.w0.heap.size<nW/\nW<W.heap.size/\(b3=true->nW<lo\/hi<=nW)
 IC:sS=true->K.w0.heap.size<qR/\qR<W.heap.size/\(b3=true->qR<lo\/hi<=qR)
 IZ:ug=true->K.w0.heap.size<rA/\rA<W.heap.size/\(b3=true->rA<lo\/hi<=rA)
 MA:b7=true->b9=true->g7≠g9
 Dt:b7=true->py=true->g7≠pc
 EC:b7=true->pB=true->g7≠nW
 ET:b7=true->sS=true->g7≠qR
 DU:b7=true->ug=true->g7≠rA
 Ez:b9=true->py=true->g9≠pc
 Eg:b9=true->pB=true->g9≠nW
 Ec:b9=true->sS=true->g9≠qR
 Ed:b9=true->ug=true->g9≠rA
 zc:py=true->pB=true->pc≠nW
 ze:py=true->sS=true->pc≠qR
 yM:py=true->ug=true->pc≠rA
 yZ:pB=true->sS=true->nW≠qR
 yP:pB=true->ug=true->nW≠rA
 yO:sS=true->ug=true->qR≠rA
section
variable{K:Qx}{tv:Value}{wK:World}{lo hi gk:Nat}{b3 b7 b9 py pB sS ug:Bool}{g7 g9 pc nW qR rA:Nat}{W W':World}
theorem zZ.lR(h:zZ K tv wK lo hi gk b3 b7 b9 py pB sS ug g7 g9 pc nW qR rA W)(hb:Below W.heap.size W W'):zZ K tv wK lo hi gk b3 b7 b9 py pB sS ug g7 g9 pc nW qR rA W':=
 ⟨by obtain⟨cs,e,h1⟩:=h.t;exact⟨cs,e,h1.below hb h1.lt⟩,h.b.trans (hb.mono h.b.size),λe=>⟨(h.k e).1,(h.k e).2.1,YL (h.k e).2.2.1 hb.size,λp h1 h2=>(hb.cell (p:=p) (YK h2 (h.k e).2.2.1)).trans ((h.k e).2.2.2 p h1 h2)⟩,
  λe=>(h.m7 e).below hb (h.m7 e).lt,λe=>(h.m9 e).below hb (h.m9 e).lt,λe=>(h.KV e).below hb (h.KV e).lt,λe=>(h.J2 e).below hb (h.J2 e).lt,λe=>(h.Yo e).below hb (h.Yo e).lt,λe=>(h.m17 e).below hb (h.m17 e).lt,
  λe=>⟨(h.G7 e).1,YK (h.G7 e).2.1 hb.size,(h.G7 e).2.2⟩,λe=>⟨(h.G9 e).1,YK (h.G9 e).2.1 hb.size,(h.G9 e).2.2⟩,λe=>⟨(h.Ju e).1,YK (h.Ju e).2.1 hb.size,(h.Ju e).2.2⟩,λe=>⟨(h.Jg e).1,YK (h.Jg e).2.1 hb.size,(h.Jg e).2.2⟩,λe=>⟨(h.IC e).1,YK (h.IC e).2.1 hb.size,(h.IC e).2.2⟩,λe=>⟨(h.IZ e).1,YK (h.IZ e).2.1 hb.size,(h.IZ e).2.2⟩,
  h.MA,h.Dt,h.EC,h.ET,h.DU,h.Ez,h.Eg,h.Ec,h.Ed,h.zc,h.ze,h.yM,h.yZ,h.yP,h.yO⟩
theorem zZ.mk7(h:zZ K tv wK lo hi gk b3 false b9 py pB sS false g7 g9 pc nW qR rA W):zZ K tv wK lo hi gk b3 true b9 py pB sS false W.heap.size g9 pc nW qR rA (W.alloc (.cells (wm K.l.length).toArray 4)):=by have h2:=h.lR ((ZN _ W).alloc (X7 _) (.cells (wm K.l.length).toArray 4));refine⟨h2.t,h2.b,h2.k,λ_=>pq.new _ _ _ rfl,h2.m9,h2.KV,h2.J2,h2.Yo,λe=>(by cases e),λ_=>⟨by have:=h.b.size;obtain⟨cs,-,h3⟩:=h.t;exact h3.lt,by simp,λe=> .inr (h.k e).2.2.1⟩,h2.G9,h2.Ju,h2.Jg,h2.IC,h2.IZ,λ_ e=>by have:=(h.G9 e).2.1;omega,λ_ e=>by have:=(h.Ju e).2.1;omega,λ_ e=>by have:=(h.Jg e).2.1;omega,λ_ e=>by have:=(h.IC e).2.1;omega,λ_ e=>by have:=(h.IZ e).2.1;omega,h2.Ez,h2.Eg,h2.Ec,h2.Ed,h2.zc,h2.ze,h2.yM,h2.yZ,h2.yP,h2.yO⟩
theorem zZ.mk9(h:zZ K tv wK lo hi gk b3 b7 false py pB sS false g7 g9 pc nW qR rA W):zZ K tv wK lo hi gk b3 b7 true py pB sS false g7 W.heap.size pc nW qR rA (W.alloc (.cells (lY (List.replicate K.l.length 0)).toArray 2)):=by have h2:=h.lR ((ZN _ W).alloc (X7 _) (.cells (lY (List.replicate K.l.length 0)).toArray 2));refine⟨h2.t,h2.b,h2.k,h2.m7,λ_=>pe.new _ _ _ rfl,h2.KV,h2.J2,h2.Yo,λe=>(by cases e),h2.G7,λ_=>⟨by have:=h.b.size;obtain⟨cs,-,h3⟩:=h.t;exact h3.lt,by simp,λe=> .inr (h.k e).2.2.1⟩,h2.Ju,h2.Jg,h2.IC,h2.IZ,λe _=>by have:=(h.G7 e).2.1;omega,h2.Dt,h2.EC,h2.ET,h2.DU,λ_ e=>by have:=(h.Ju e).2.1;omega,λ_ e=>by have:=(h.Jg e).2.1;omega,λ_ e=>by have:=(h.IC e).2.1;omega,λ_ e=>by have:=(h.IZ e).2.1;omega,h2.zc,h2.ze,h2.yM,h2.yZ,h2.yP,h2.yO⟩
theorem zZ.mk11(h:zZ K tv wK lo hi gk b3 b7 b9 false pB sS false g7 g9 pc nW qR rA W):zZ K tv wK lo hi gk b3 b7 b9 true pB sS false g7 g9 W.heap.size nW qR rA (W.alloc (.cells (lY (List.replicate K.l.length 0)).toArray 2)):=by have h2:=h.lR ((ZN _ W).alloc (X7 _) (.cells (lY (List.replicate K.l.length 0)).toArray 2));refine⟨h2.t,h2.b,h2.k,h2.m7,h2.m9,λ_=>pe.new _ _ _ rfl,h2.J2,h2.Yo,λe=>(by cases e),h2.G7,h2.G9,λ_=>⟨by have:=h.b.size;obtain⟨cs,-,h3⟩:=h.t;exact h3.lt,by simp,λe=> .inr (h.k e).2.2.1⟩,h2.Jg,h2.IC,h2.IZ,h2.MA,λe _=>by have:=(h.G7 e).2.1;omega,h2.EC,h2.ET,h2.DU,λe _=>by have:=(h.G9 e).2.1;omega,h2.Eg,h2.Ec,h2.Ed,λ_ e=>by have:=(h.Jg e).2.1;omega,λ_ e=>by have:=(h.IC e).2.1;omega,λ_ e=>by have:=(h.IZ e).2.1;omega,h2.yZ,h2.yP,h2.yO⟩
theorem zZ.mk13(h:zZ K tv wK lo hi gk b3 b7 b9 py false sS false g7 g9 pc nW qR rA W):zZ K tv wK lo hi gk b3 b7 b9 py true sS false g7 g9 pc W.heap.size qR rA (W.alloc (.cells (lY (List.replicate K.l.length 0)).toArray 2)):=by have h2:=h.lR ((ZN _ W).alloc (X7 _) (.cells (lY (List.replicate K.l.length 0)).toArray 2));refine⟨h2.t,h2.b,h2.k,h2.m7,h2.m9,h2.KV,λ_=>pe.new _ _ _ rfl,h2.Yo,λe=>(by cases e),h2.G7,h2.G9,h2.Ju,λ_=>⟨by have:=h.b.size;obtain⟨cs,-,h3⟩:=h.t;exact h3.lt,by simp,λe=> .inr (h.k e).2.2.1⟩,h2.IC,h2.IZ,h2.MA,h2.Dt,λe _=>by have:=(h.G7 e).2.1;omega,h2.ET,h2.DU,h2.Ez,λe _=>by have:=(h.G9 e).2.1;omega,h2.Ec,h2.Ed,λe _=>by have:=(h.Ju e).2.1;omega,h2.ze,h2.yM,λ_ e=>by have:=(h.IC e).2.1;omega,λ_ e=>by have:=(h.IZ e).2.1;omega,h2.yO⟩
theorem zZ.mk15(h:zZ K tv wK lo hi gk b3 b7 b9 py pB false false g7 g9 pc nW qR rA W):zZ K tv wK lo hi gk b3 b7 b9 py pB true false g7 g9 pc nW W.heap.size rA (W.alloc (.cells (JD K.l.length).toArray 121)):=by have h2:=h.lR ((ZN _ W).alloc (X7 _) (.cells (JD K.l.length).toArray 121));refine⟨h2.t,h2.b,h2.k,h2.m7,h2.m9,h2.KV,h2.J2,λ_=>lq.new _ _ _,λe=>(by cases e),h2.G7,h2.G9,h2.Ju,h2.Jg,λ_=>⟨by have:=h.b.size;obtain⟨cs,-,h3⟩:=h.t;exact h3.lt,by simp,λe=> .inr (h.k e).2.2.1⟩,h2.IZ,h2.MA,h2.Dt,h2.EC,λe _=>by have:=(h.G7 e).2.1;omega,h2.DU,h2.Ez,h2.Eg,λe _=>by have:=(h.G9 e).2.1;omega,h2.Ed,h2.zc,λe _=>by have:=(h.Ju e).2.1;omega,h2.yM,λe _=>by have:=(h.Jg e).2.1;omega,h2.yP,λ_ e=>by have:=(h.IZ e).2.1;omega⟩
theorem zZ.mk17(h:zZ K tv wK lo hi gk b3 b7 b9 py pB sS false g7 g9 pc nW qR rA W):zZ K tv wK lo hi gk b3 b7 b9 py pB sS true g7 g9 pc nW qR W.heap.size (W.alloc (.cells (rq {K with gk:=gk,go:=g7,gx:=g9,gy:=pc,gh:=nW,gr:=qR} 0 0 0 (.slice none 0 0)) 216)):=by have h2:=h.lR ((ZN _ W).alloc (X7 _) (.cells (rq {K with gk:=gk,go:=g7,gx:=g9,gy:=pc,gh:=nW,gr:=qR} 0 0 0 (.slice none 0 0)) 216));refine⟨h2.t,h2.b,h2.k,h2.m7,h2.m9,h2.KV,h2.J2,h2.Yo,λ_=>lq.new _ _ _,h2.G7,h2.G9,h2.Ju,h2.Jg,h2.IC,λ_=>⟨by have:=h.b.size;obtain⟨cs,-,h3⟩:=h.t;exact h3.lt,by simp,λe=> .inr (h.k e).2.2.1⟩,h2.MA,h2.Dt,h2.EC,h2.ET,λe _=>by have:=(h.G7 e).2.1;omega,h2.Ez,h2.Eg,h2.Ec,λe _=>by have:=(h.G9 e).2.1;omega,h2.zc,h2.ze,λe _=>by have:=(h.Ju e).2.1;omega,h2.yZ,λe _=>by have:=(h.Jg e).2.1;omega,λe _=>by have:=(h.IC e).2.1;omega⟩
theorem zZ.kids(h:zZ K tv wK lo hi gk false b7 b9 py pB sS false g7 g9 pc nW qR rA W){gk2:Nat}(hk:p9 W' W.heap.size W'.heap.size gk2 K.l)(hb:Below W.heap.size W W'):zZ K tv W' W.heap.size W'.heap.size gk2 true b7 b9 py pB sS false g7 g9 pc nW qR rA W':=by have h2:=h.lR hb;exact⟨h2.t,h2.b,λ_=>⟨hk,h.b.size,X7 _,λ_ _ _=>rfl⟩,h2.m7,h2.m9,h2.KV,h2.J2,h2.Yo,λe=>(by cases e),λe=>⟨(h2.G7 e).1,(h2.G7 e).2.1,λ_=> .inl (h.G7 e).2.1⟩,λe=>⟨(h2.G9 e).1,(h2.G9 e).2.1,λ_=> .inl (h.G9 e).2.1⟩,λe=>⟨(h2.Ju e).1,(h2.Ju e).2.1,λ_=> .inl (h.Ju e).2.1⟩,λe=>⟨(h2.Jg e).1,(h2.Jg e).2.1,λ_=> .inl (h.Jg e).2.1⟩,λe=>⟨(h2.IC e).1,(h2.IC e).2.1,λ_=> .inl (h.IC e).2.1⟩,λe=>⟨(h2.IZ e).1,(h2.IZ e).2.1,λ_=> .inl (h.IZ e).2.1⟩,h2.MA,h2.Dt,h2.EC,h2.ET,h2.DU,h2.Ez,h2.Eg,h2.Ec,h2.Ed,h2.zc,h2.ze,h2.yM,h2.yZ,h2.yP,h2.yO⟩
end
def NwP(K:Qx)(tv uV hV s5 s6 s7 s11 s12 s13:Value)(L:Array Bool)(a:Act)(W:World):Prop:=
 ∃(b0 b1 b2 b3 b4 b5 b6 b7 b8 b9 sr py sJ pB rU sS AA ug yw:Bool) (wK:World) (lo hi gk g7 g9 pc nW qR rA:Nat),L= #[b0,b1,b2,b3,b4,b5,b6,b7,b8,b9,sr,py,sJ,pB,rU,sS,AA,ug,yw]/\a=({tmps:= #[tv,.int .i64 (K.root:Int),uV,hV,.pointer K.w0.heap.size,s5,s6,s7,.pointer none,.int .i64 (K.l.length:Int),if yw then .pointer rA else undef,s11,s12,s13,if b0 then tv else undef,if b1 then .int .i64 (K.root:Int)else undef,if b2 then tv else undef,if b3 then .slice gk K.l.length K.l.length else undef,if b4 then uV else undef,if b5 then hV else undef,if b6 then .int .i64 (K.l.length:Int)else undef,if b7 then .slice g7 K.l.length K.l.length else undef,if b8 then .int .i64 (K.l.length:Int)else undef,if b9 then .slice g9 K.l.length K.l.length else undef,if sr then .int .i64 (K.l.length:Int)else undef,if py then .slice pc K.l.length K.l.length else undef,if sJ then .int .i64 (K.l.length:Int)else undef,if pB then .slice nW K.l.length K.l.length else undef,if rU then .int .i64 (K.l.length:Int)else undef,if sS then .slice qR K.l.length K.l.length else undef,if AA then .agg (rq {K with gk:=gk,go:=g7,gx:=g9,gy:=pc,gh:=nW,gr:=qR} 0 0 0 (.slice none 0 0))else undef,if ug then .pointer rA else undef,undef,undef,undef,undef,undef,undef,undef,undef,undef,undef,undef,undef,undef,undef,undef,undef,undef,undef,undef,undef,undef,undef,undef,undef],defers:=[]}:Act)/\zZ K tv wK lo hi gk b3 b7 b9 py pB sS ug g7 g9 pc nW qR rA W/\(AA=true->b3=true/\b7=true/\b9=true/\py=true/\pB=true/\sS=true)/\(ug=true->AA=true)/\(yw=true->ug=true)
structure NwH(K:Qx):Prop where
 n:0<K.l.length/\K.l.length<=65536
 tr:P7 K.w0 K.w0.heap.size K.A K.A2 K.l K.adv
 ud:Reads K.w0 K.w0.heap.size 3 K.uA K.us.length (nC K.us)
 hi:Reads K.w0 K.w0.heap.size 1 K.hA K.hs.length (lY K.hs)
 qt:QTr K.l
 un:∀b,b<K.l.length->Pd K.l (oF K.l b)<=60000
 u1:∀x∈K.l,x.s.mu.length<=60000
def nwC(K:Qx)(wK:World)(lo hi gk g7 g9 pc nW qR rA:Nat)(W:World):Qx:={K with gk:=gk,go:=g7,gx:=g9,gy:=pc,gh:=nW,gr:=qR,bw:=rA,klo:=lo,kB:=hi,B:=W.heap.size,wK:=wK}
theorem zZ.fin{K:Qx}{tv:Value}{wK:World}{lo hi gk g7 g9 pc nW qR rA:Nat}{W:World}(hK:NwH K)(h:zZ K tv wK lo hi gk true true true true true true true g7 g9 pc nW qR rA W): nJ (nwC K wK lo hi gk g7 g9 pc nW qR rA W)/\nT (nwC K wK lo hi gk g7 g9 pc nW qR rA W) 0 0 0 none 0 [] W:=by
 refine⟨⟨hK.n,hK.tr,hK.ud,hK.hi,hK.qt,?_,?_,⟨(h.k rfl).2.1,(h.k rfl).2.2.1⟩,(h.k rfl).1,hK.un,hK.u1⟩,⟨h.m17 rfl,YV _ _ _ _,h.m7 rfl,h.m9 rfl,h.KV rfl,h.J2 rfl,⟨_,h.Yo rfl,by simp[JD,nwC],λb hb=>⟨none,0,[],by rw[YR];unfold JD;rw[aBH,YP (show b<K.l.length from hb)];rfl,⟨YV _ _ _ _,by simp⟩,by simp⟩⟩,(h.k rfl).2.2.2,h.b,X7 _⟩⟩
 ·have:=h.MA rfl rfl;have:=h.Dt rfl rfl;have:=h.EC rfl rfl;have:=h.ET rfl rfl;have:=h.DU rfl rfl;have:=h.Ez rfl rfl;have:=h.Eg rfl rfl;have:=h.Ec rfl rfl;have:=h.Ed rfl rfl;have:=h.zc rfl rfl;have:=h.ze rfl rfl;have:=h.yM rfl rfl;have:=h.yZ rfl rfl;have:=h.yP rfl rfl;have:=h.yO rfl rfl;simp only[Qx.arr,nwC,List.nodup_cons,Y7,ZD,DA,not_or];simp;omega
 ·intro g hg;simp only[Qx.arr,nwC,Y7,ZD,DA]at hg;rcases hg with rfl | rfl | rfl | rfl | rfl | rfl
  ·exact⟨Ra (h.IZ rfl).1,(h.IZ rfl).2.1,(h.IZ rfl).2.2 rfl⟩
  ·exact⟨Ra (h.G7 rfl).1,(h.G7 rfl).2.1,(h.G7 rfl).2.2 rfl⟩
  ·exact⟨Ra (h.G9 rfl).1,(h.G9 rfl).2.1,(h.G9 rfl).2.2 rfl⟩
  ·exact⟨Ra (h.Ju rfl).1,(h.Ju rfl).2.1,(h.Ju rfl).2.2 rfl⟩
  ·exact⟨Ra (h.Jg rfl).1,(h.Jg rfl).2.1,(h.Jg rfl).2.2 rfl⟩
  ·exact⟨Ra (h.IC rfl).1,(h.IC rfl).2.1,(h.IC rfl).2.2 rfl⟩
structure NwA(K:Qx)(e:Ending)(W:World):Prop where
 ex:∃C a s1 s2 Af cf fl,e= .returned (.pointer (some ⟨C.bw,0,none⟩))/\nJ C/\nT C a s1 s2 Af cf fl W/\fl.length<=65536/\(C.l=K.l/\C.adv=K.adv/\C.us=K.us/\C.hs=K.hs/\C.A=K.A/\C.A2=K.A2/\C.c=K.c/\C.c2=K.c2/\C.view=K.view/\C.w0=K.w0)
 b:Below K.w0.heap.size K.w0 W
theorem Wn(hCT:ContS)(K:Qx)(hK:NwH K)(RU:K.root<K.l.length): Calls prog 129 #[.agg #[.slice K.A K.l.length K.c,.slice K.A2 K.adv.length K.c2,K.view],.int .i64 (K.root:Int),.slice K.uA K.us.length K.uc,.slice K.hA K.hs.length K.hc] K.w0 λe w'=>NwA K e w':=by
 have Ii:=X6 hCT;clear hCT;have HH:=X6 hK;have HRT0:=X6 RU;have HN:=X6 hK.n;obtain⟨tv,htv⟩:∃v,v=Value.agg #[.slice K.A K.l.length K.c,.slice K.A2 K.adv.length K.c2,K.view]:=⟨_,rfl⟩;obtain⟨uV,huv⟩:∃v,v=Value.slice K.uA K.us.length K.uc:=⟨_,rfl⟩;obtain⟨hV,hhv⟩:∃v,v=Value.slice K.hA K.hs.length K.hc:=⟨_,rfl⟩;have HTV:=X6 htv;have B9:=X6 huv;have HHV:=X6 hhv;obtain⟨W1,Yr⟩:∃W,W=K.w0.alloc (.cells #[.slice K.A K.l.length K.c,.slice K.A2 K.adv.length K.c2,K.view] 25):=⟨_,rfl⟩;have HM1:Hid (lq W1 K.w0.heap.size 25 #[.slice K.A K.l.length K.c,.slice K.A2 K.adv.length K.c2,K.view]/\Below K.w0.heap.size K.w0 W1):=X6 ⟨by rw[Yr];exact lq.new _ _ _,by rw[Yr];exact bA⟩;have HKI:Hid (∀W,Below K.w0.heap.size K.w0 W->Calls prog 30 #[.agg #[.slice K.A K.l.length K.c,.slice K.A2 K.adv.length K.c2,K.view]] W λe w'=>OI K.l W w' e):=X6 (λW hb=>Ey K.l K.A K.A2 K.c K.adv.length K.c2 K.view W hK.n.2 ((hK.tr.nd.below hb).more hb.size));clear hK RU;go_enter func129,ntmps129;go_upto_region 1 with(fail)
 rw[<-Yr];clear Yr;obtain⟨t0,t1,t2⟩:=HM1.1.c3;have tl:=HM1.1.lt;go_upto_region 2 with(fail)
 clear t0 t1 t2 tl;rw[<-htv,<-huv,<-hhv];clear hhv;have HM0:Hid (zZ K tv W1 0 0 0 false false false false false false false 0 0 0 0 0 0 W1.drew):=X6 ⟨⟨_,htv,HM1.1.drew⟩,HM1.2.drew,by simp,by simp,by simp,by simp,by simp,by simp,by simp,by simp,by simp,by simp,by simp,by simp,by simp,by simp,by simp,by simp,by simp,by simp,by simp,by simp,by simp,by simp,by simp,by simp,by simp,by simp,by simp,by simp⟩;clear htv huv HM1;refine uC (NwP K tv uV hV undef undef undef (.pointer K.w0.heap.size) (.slice K.A K.l.length K.c) (.int .i64 (K.l.length:Int))) (by kernel_rfl) ?_ ?_ ?_
 ·exact⟨false,false,false,false,false,false,false,false,false,false,false,false,false,false,false,false,false,false,false,W1,0,0,0,0,0,0,0,0,0,rfl,rfl,HM0.out,(by simp),(by simp),(by simp)⟩
 ·rintro L a W i ⟨b0,b1,b2,b3,b4,b5,b6,b7,b8,b9,sr,py,sJ,pB,rU,sS,AA,ug,yw,wK,lo,hi,gk,g7,g9,pc,nW,qR,rA,rfl,rfl,hM,Hs,Hc,CV⟩ hi;obtain⟨nt,oi,nz,mO⟩:=mem_ready.1 hi;have lN:i<19:=by
   rcases Z6 i 19 with h | h
   ·exact h
   ·rw[aCT,ZC (by simpa using h)]at nt;simp at nt
  clear hi;rcases(by omega:i=0\/i=1\/i=2\/i=3\/i=4\/i=5\/i=6\/i=7\/i=8\/i=9\/i=10\/i=11\/i=12\/i=13\/i=14\/i=15\/i=16\/i=17\/i=18)with rfl | rfl | rfl | rfl | rfl | rfl | rfl | rfl | rfl | rfl | rfl | rfl | rfl | rfl | rfl | rfl | rfl | rfl | rfl
  ·skip
   injection nz with nz;subst nz;simp[Region.binds]at nt mO;subst nt;obtain⟨cs,rfl,hT⟩:=hM.t;obtain⟨rfl⟩:cs= #[.slice K.A K.l.length K.c,.slice K.A2 K.adv.length K.c2,.int .i64 K.view]:=(by injection HTV.out);obtain⟨t0,t1,t2⟩:=hT.c3;have tl:=hT.lt;refine mh (v:= .agg #[.slice K.A K.l.length K.c,.slice K.A2 K.adv.length K.c2,.int .i64 K.view]) (X:=W) rfl rfl (by go_simp) ?_;exact⟨true,b1,b2,b3,b4,b5,b6,b7,b8,b9,sr,py,sJ,pB,rU,sS,AA,ug,yw,wK,lo,hi,gk,g7,g9,pc,nW,qR,rA,rfl,rfl,hM,Hs,Hc,CV⟩
  ·skip
   injection nz with nz;subst nz;simp[Region.binds]at nt mO;subst nt;refine mh (v:= .int .i64 (K.root:Int)) (X:=W) rfl rfl (by rfl) ?_;exact⟨b0,true,b2,b3,b4,b5,b6,b7,b8,b9,sr,py,sJ,pB,rU,sS,AA,ug,yw,wK,lo,hi,gk,g7,g9,pc,nW,qR,rA,rfl,rfl,hM,Hs,Hc,CV⟩
  ·skip
   injection nz with nz;subst nz;simp[Region.binds]at nt mO;subst nt;obtain⟨cs,rfl,hT⟩:=hM.t;obtain⟨rfl⟩:cs= #[.slice K.A K.l.length K.c,.slice K.A2 K.adv.length K.c2,.int .i64 K.view]:=(by injection HTV.out);obtain⟨t0,t1,t2⟩:=hT.c3;have tl:=hT.lt;refine mh (v:= .agg #[.slice K.A K.l.length K.c,.slice K.A2 K.adv.length K.c2,.int .i64 K.view]) (X:=W) rfl rfl (by go_simp) ?_;exact⟨b0,b1,true,b3,b4,b5,b6,b7,b8,b9,sr,py,sJ,pB,rU,sS,AA,ug,yw,wK,lo,hi,gk,g7,g9,pc,nW,qR,rA,rfl,rfl,hM,Hs,Hc,CV⟩
  ·skip
   injection nz with nz;subst nz;simp[Region.binds]at nt mO;subst nt;subst mO;have Mw:AA=false:=by
    cases AA
    ·rfl
    ·have:=Hs rfl;simp at this
   subst Mw;have KG:ug=false:=by
    cases ug
    ·rfl
    ·have:=Hc rfl;simp at this
   subst KG;have Jb:yw=false:=by
    cases yw
    ·rfl
    ·have:=CV rfl;simp at this
   subst Jb;refine wpOp_step rfl (λK' hK=>?_);rw[YP rfl];have HK:=X6 hK;clear hK;rw[HTV.out];go_simp;refine(HKI.out W hM.b).mono ?_;rintro e w9 ⟨⟨g9k,rfl,Hj⟩,mH⟩;refine HK.out _ _ ?_;rw[<-HTV.out];exact⟨b0,b1,true,true,b4,b5,b6,b7,b8,b9,sr,py,sJ,pB,rU,sS,false,false,false,w9,W.heap.size,w9.heap.size,g9k,g7,g9,pc,nW,qR,rA,rfl,rfl,hM.kids Hj mH,(by simp),(by simp),(by simp)⟩
  ·skip
   injection nz with nz;subst nz;simp[Region.binds]at nt mO;subst nt;refine mh (v:=uV) (X:=W) rfl rfl (by rfl) ?_;exact⟨b0,b1,b2,b3,true,b5,b6,b7,b8,b9,sr,py,sJ,pB,rU,sS,AA,ug,yw,wK,lo,hi,gk,g7,g9,pc,nW,qR,rA,rfl,rfl,hM,Hs,Hc,CV⟩
  ·skip
   injection nz with nz;subst nz;simp[Region.binds]at nt mO;subst nt;refine mh (v:=hV) (X:=W) rfl rfl (by rfl) ?_;exact⟨b0,b1,b2,b3,b4,true,b6,b7,b8,b9,sr,py,sJ,pB,rU,sS,AA,ug,yw,wK,lo,hi,gk,g7,g9,pc,nW,qR,rA,rfl,rfl,hM,Hs,Hc,CV⟩
  ·skip
   injection nz with nz;subst nz;simp[Region.binds]at nt mO;subst nt;refine mh (v:= .int .i64 (K.l.length:Int)) (X:=W) rfl rfl (by rfl) ?_;exact⟨b0,b1,b2,b3,b4,b5,true,b7,b8,b9,sr,py,sJ,pB,rU,sS,AA,ug,yw,wK,lo,hi,gk,g7,g9,pc,nW,qR,rA,rfl,rfl,hM,Hs,Hc,CV⟩
  ·skip
   injection nz with nz;subst nz;simp[Region.binds]at nt mO;subst nt;subst mO;have Mw:AA=false:=by
    cases AA
    ·rfl
    ·have:=Hs rfl;simp at this
   subst Mw;have KG:ug=false:=by
    cases ug
    ·rfl
    ·have:=Hc rfl;simp at this
   subst KG;have Jb:yw=false:=by
    cases yw
    ·rfl
    ·have:=CV rfl;simp at this
   subst Jb;refine mh (v:= .slice W.heap.size K.l.length K.l.length) (X:=W.alloc (.cells (wm K.l.length).toArray 4)) rfl rfl (by have tC:=uI K.l.length (by have:=HN.out;omega) W;go_simp) ?_;exact⟨b0,b1,b2,b3,b4,b5,true,true,b8,b9,sr,py,sJ,pB,rU,sS,false,false,false,wK,lo,hi,gk,W.heap.size,g9,pc,nW,qR,rA,rfl,rfl,hM.mk7,(by simp),(by simp),(by simp)⟩
  ·skip
   injection nz with nz;subst nz;simp[Region.binds]at nt mO;subst nt;refine mh (v:= .int .i64 (K.l.length:Int)) (X:=W) rfl rfl (by rfl) ?_;exact⟨b0,b1,b2,b3,b4,b5,b6,b7,true,b9,sr,py,sJ,pB,rU,sS,AA,ug,yw,wK,lo,hi,gk,g7,g9,pc,nW,qR,rA,rfl,rfl,hM,Hs,Hc,CV⟩
  ·skip
   injection nz with nz;subst nz;simp[Region.binds]at nt mO;subst nt;subst mO;have Mw:AA=false:=by
    cases AA
    ·rfl
    ·have:=Hs rfl;simp at this
   subst Mw;have KG:ug=false:=by
    cases ug
    ·rfl
    ·have:=Hc rfl;simp at this
   subst KG;have Jb:yw=false:=by
    cases yw
    ·rfl
    ·have:=CV rfl;simp at this
   subst Jb;refine mh (v:= .slice W.heap.size K.l.length K.l.length) (X:=W.alloc (.cells (lY (List.replicate K.l.length 0)).toArray 2)) rfl rfl (by have tC:=xB K.l.length (by have:=HN.out;omega) W;go_simp) ?_;exact⟨b0,b1,b2,b3,b4,b5,b6,b7,true,true,sr,py,sJ,pB,rU,sS,false,false,false,wK,lo,hi,gk,g7,W.heap.size,pc,nW,qR,rA,rfl,rfl,hM.mk9,(by simp),(by simp),(by simp)⟩
  ·skip
   injection nz with nz;subst nz;simp[Region.binds]at nt mO;subst nt;refine mh (v:= .int .i64 (K.l.length:Int)) (X:=W) rfl rfl (by rfl) ?_;exact⟨b0,b1,b2,b3,b4,b5,b6,b7,b8,b9,true,py,sJ,pB,rU,sS,AA,ug,yw,wK,lo,hi,gk,g7,g9,pc,nW,qR,rA,rfl,rfl,hM,Hs,Hc,CV⟩
  ·skip
   injection nz with nz;subst nz;simp[Region.binds]at nt mO;subst nt;subst mO;have Mw:AA=false:=by
    cases AA
    ·rfl
    ·have:=Hs rfl;simp at this
   subst Mw;have KG:ug=false:=by
    cases ug
    ·rfl
    ·have:=Hc rfl;simp at this
   subst KG;have Jb:yw=false:=by
    cases yw
    ·rfl
    ·have:=CV rfl;simp at this
   subst Jb;refine mh (v:= .slice W.heap.size K.l.length K.l.length) (X:=W.alloc (.cells (lY (List.replicate K.l.length 0)).toArray 2)) rfl rfl (by have tC:=xB K.l.length (by have:=HN.out;omega) W;go_simp) ?_;exact⟨b0,b1,b2,b3,b4,b5,b6,b7,b8,b9,true,true,sJ,pB,rU,sS,false,false,false,wK,lo,hi,gk,g7,g9,W.heap.size,nW,qR,rA,rfl,rfl,hM.mk11,(by simp),(by simp),(by simp)⟩
  ·skip
   injection nz with nz;subst nz;simp[Region.binds]at nt mO;subst nt;refine mh (v:= .int .i64 (K.l.length:Int)) (X:=W) rfl rfl (by rfl) ?_;exact⟨b0,b1,b2,b3,b4,b5,b6,b7,b8,b9,sr,py,true,pB,rU,sS,AA,ug,yw,wK,lo,hi,gk,g7,g9,pc,nW,qR,rA,rfl,rfl,hM,Hs,Hc,CV⟩
  ·skip
   injection nz with nz;subst nz;simp[Region.binds]at nt mO;subst nt;subst mO;have Mw:AA=false:=by
    cases AA
    ·rfl
    ·have:=Hs rfl;simp at this
   subst Mw;have KG:ug=false:=by
    cases ug
    ·rfl
    ·have:=Hc rfl;simp at this
   subst KG;have Jb:yw=false:=by
    cases yw
    ·rfl
    ·have:=CV rfl;simp at this
   subst Jb;refine mh (v:= .slice W.heap.size K.l.length K.l.length) (X:=W.alloc (.cells (lY (List.replicate K.l.length 0)).toArray 2)) rfl rfl (by have tC:=xB K.l.length (by have:=HN.out;omega) W;go_simp) ?_;exact⟨b0,b1,b2,b3,b4,b5,b6,b7,b8,b9,sr,py,true,true,rU,sS,false,false,false,wK,lo,hi,gk,g7,g9,pc,W.heap.size,qR,rA,rfl,rfl,hM.mk13,(by simp),(by simp),(by simp)⟩
  ·skip
   injection nz with nz;subst nz;simp[Region.binds]at nt mO;subst nt;refine mh (v:= .int .i64 (K.l.length:Int)) (X:=W) rfl rfl (by rfl) ?_;exact⟨b0,b1,b2,b3,b4,b5,b6,b7,b8,b9,sr,py,sJ,pB,true,sS,AA,ug,yw,wK,lo,hi,gk,g7,g9,pc,nW,qR,rA,rfl,rfl,hM,Hs,Hc,CV⟩
  ·skip
   injection nz with nz;subst nz;simp[Region.binds]at nt mO;subst nt;subst mO;have Mw:AA=false:=by
    cases AA
    ·rfl
    ·have:=Hs rfl;simp at this
   subst Mw;have KG:ug=false:=by
    cases ug
    ·rfl
    ·have:=Hc rfl;simp at this
   subst KG;have Jb:yw=false:=by
    cases yw
    ·rfl
    ·have:=CV rfl;simp at this
   subst Jb;refine mh (v:= .slice W.heap.size K.l.length K.l.length) (X:=W.alloc (.cells (JD K.l.length).toArray 121)) rfl rfl (by have tC:=Xu K.l.length (by have:=HN.out;omega) W;go_simp) ?_;exact⟨b0,b1,b2,b3,b4,b5,b6,b7,b8,b9,sr,py,sJ,pB,true,true,false,false,false,wK,lo,hi,gk,g7,g9,pc,nW,W.heap.size,rA,rfl,rfl,hM.mk15,(by simp),(by simp),(by simp)⟩
  ·skip
   injection nz with nz;subst nz;simp[Region.binds]at nt mO;subst nt;obtain⟨rfl,rfl,rfl,rfl,rfl,rfl,rfl,rfl,rfl,rfl⟩:=mO;have KG:ug=false:=by
    cases ug
    ·rfl
    ·have:=Hc rfl;simp at this
   subst KG;have Jb:yw=false:=by
    cases yw
    ·rfl
    ·have:=CV rfl;simp at this
   subst Jb;refine mh (v:= .agg (rq {K with gk:=gk,go:=g7,gx:=g9,gy:=pc,gh:=nW,gr:=qR} 0 0 0 (.slice none 0 0))) (X:=W) rfl rfl (by rw[HTV.out,B9.out,HHV.out];kernel_rfl) ?_;exact⟨true,true,b2,true,true,true,b6,true,b8,true,sr,true,sJ,true,rU,true,true,false,false,wK,lo,hi,gk,g7,g9,pc,nW,qR,rA,rfl,rfl,hM,λ_=>⟨rfl,rfl,rfl,rfl,rfl,rfl⟩,(by simp),(by simp)⟩
  ·skip
   injection nz with nz;subst nz;simp[Region.binds]at nt mO;subst nt;subst mO;have Jb:yw=false:=by
    cases yw
    ·rfl
    ·have:=CV rfl;simp at this
   subst Jb;refine mh (v:= .pointer W.heap.size) (X:=W.alloc (.cells (rq {K with gk:=gk,go:=g7,gx:=g9,gy:=pc,gh:=nW,gr:=qR} 0 0 0 (.slice none 0 0)) 216)) rfl rfl (by kernel_rfl) ?_;exact⟨b0,b1,b2,b3,b4,b5,b6,b7,b8,b9,sr,py,sJ,pB,rU,sS,true,true,false,wK,lo,hi,gk,g7,g9,pc,nW,qR,W.heap.size,rfl,rfl,hM.mk17,Hs,λ_=>rfl,(by simp)⟩
  ·skip
   injection nz with nz;subst nz;simp[Region.binds]at nt mO;subst nt;obtain⟨rfl,rfl,rfl,rfl,rfl,-,rfl,rfl,rfl,rfl,rfl,rfl,rfl,rfl,rfl,rfl,rfl,rfl,rfl,-⟩:=mO;refine mh (v:= .pointer rA) (X:=W) rfl rfl (by rfl) ?_;exact⟨true,true,true,true,true,true,true,true,true,true,true,true,true,true,true,true,true,true,true,wK,lo,hi,gk,g7,g9,pc,nW,qR,rA,rfl,rfl,hM,λ_=>⟨rfl,rfl,rfl,rfl,rfl,rfl⟩,λ_=>rfl,λ_=>rfl⟩
 ·rintro L a W ⟨b0,b1,b2,b3,b4,b5,b6,b7,b8,b9,sr,py,sJ,pB,rU,sS,AA,ug,yw,wK,lo,hi,gk,g7,g9,pc,nW,qR,rA,rfl,rfl,hM,Hs,Hc,CV⟩ he;obtain rfl:b0=true:=uD he 0;obtain rfl:b1=true:=uD he 1;obtain rfl:b2=true:=uD he 2;obtain rfl:b3=true:=uD he 3;obtain rfl:b4=true:=uD he 4;obtain rfl:b5=true:=uD he 5;obtain rfl:b6=true:=uD he 6;obtain rfl:b7=true:=uD he 7;obtain rfl:b8=true:=uD he 8;obtain rfl:b9=true:=uD he 9;obtain rfl:sr=true:=uD he 10;obtain rfl:py=true:=uD he 11;obtain rfl:sJ=true:=uD he 12;obtain rfl:pB=true:=uD he 13;obtain rfl:rU=true:=uD he 14;obtain rfl:sS=true:=uD he 15;obtain rfl:AA=true:=uD he 16;obtain rfl:ug=true:=uD he 17;obtain rfl:yw=true:=uD he 18;clear he Hs Hc CV;obtain⟨hC,hW⟩:=zZ.fin HH.out hM;obtain⟨C,hCe⟩:∃C,C=nwC K wK lo hi gk g7 g9 pc nW qR rA W:=⟨_,rfl⟩;rw[<-hCe]at hC hW;have HEQ:Hid (C.l=K.l/\C.adv=K.adv/\C.us=K.us/\C.hs=K.hs/\C.A=K.A/\C.A2=K.A2/\C.c=K.c/\C.c2=K.c2/\C.view=K.view/\C.w0=K.w0):=X6 (by rw[hCe];exact⟨rfl,rfl,rfl,rfl,rfl,rfl,rfl,rfl,rfl,rfl⟩);obtain rfl:rA=C.bw:=by rw[hCe];rfl
  have En:Hid (K.root<C.l.length):=X6 (by rw[HEQ.1];exact HRT0.out);have hri:(K.root:Int)<(C.l.length:Int):=by have:=En.out;omega
  obtain⟨root,qs⟩:∃r,r=K.root:=⟨_,rfl⟩;rw[<-qs]at En hri⊢;have HC:=X6 hC;have qO:=X6 hW;clear hM hCe hC hW qs HRT0 HTV B9 HHV HM0 HKI;go_upto_region 3 with(fail);refine wp_region_held_drew (S:=λV=>nT C 0 0 0 none 0 [] V) (by kernel_rfl) (qO.below HC.out (ZN _ _).drew) (λhS=>?_);refine nk [0,1,2,3,4,5,6] ?_;iterate 7
   refine tk hS (y:=by intro W' lr;obtain⟨-,-,⟨-,uT,AV,-⟩,cl⟩:=lr.cs;go_simp;rfl) (h:=?_)
  refine np ?_;refine mV 7 (λK hK=>?_);go_simp;refine(rN C _ _ _ _ _ _ _ HC.out hS root En.out 3 (by omega)).mono ?_;rintro e w9 ⟨⟨sd9,rfl⟩,mH⟩;refine ky hK (hS.below HC.out mH) λhS=>?_;clear hK;refine nk [8,9] ?_;iterate 2
   refine tk hS (y:=by intro W' lr;obtain⟨-,-,⟨-,uT,AV,-⟩,cl⟩:=lr.cs;go_simp;rfl) (h:=?_)
  refine np ?_;refine mV 10 (λK hK=>?_);obtain⟨o8v,o8⟩:=hS.x.at_ En.out;have Kv:=hS.x.lt;have MV:=hS.x.frozen;go_simp;clear o8 Kv MV;refine ky hK (hS.LQ HC.out root _) λhS=>?_;clear hK;refine nR ?_;have vL:=X6 hS;clear hS qO;generalize World.setCell _ _ _=w4 at vL⊢;go_upto_region 4 with(fail)
  refine wp_region_held_drew (S:=λV=>nT C 0 0 0 none 0 [] V) (by kernel_rfl) (vL.below HC.out (ZN _ _).drew) (λhS=>?_);refine nk [0,1,2,3,4,5,6] ?_;iterate 7
   refine tk hS (y:=by intro W' lr;obtain⟨-,-,⟨-,uT,AV,-⟩,cl⟩:=lr.cs;go_simp;rfl) (h:=?_)
  refine np ?_;refine mV 7 (λK hK=>?_);go_simp;refine(rN C _ _ _ _ _ _ _ HC.out hS root En.out 0 (by omega)).mono ?_;rintro e w9 ⟨⟨sd9,rfl⟩,mH⟩;refine ky hK (hS.below HC.out mH) λhS=>?_;clear hK;refine nk [8,9] ?_;iterate 2
   refine tk hS (y:=by intro W' lr;obtain⟨-,-,⟨-,uT,AV,-⟩,cl⟩:=lr.cs;go_simp;rfl) (h:=?_)
  refine np ?_;refine mV 10 (λK hK=>?_);obtain⟨o8v,o8⟩:=hS.y.at_ En.out;have Kv:=hS.y.lt;have MV:=hS.y.frozen;go_simp;clear o8 Kv MV;refine ky hK (hS.Ew HC.out root _) λhS=>?_;clear hK;refine nR ?_;have HW5:=X6 hS;clear hS vL;generalize World.setCell _ _ _=w5 at HW5⊢;go_wp2_with (go_at_call 194;go_loud (refine(Ii.out C HC.out C.l.length root _ _ _ _ _ _ _ _ En.out (Nat.le_add_left _ _) HW5.out (by have:=TL C.l C.l.length root En.out;have:=HC.n.2;simp only[aBD];omega)).mono ?_;rintro e w6 ⟨⟨v6,rfl⟩,XK⟩;have HCO:=X6 XK;clear XK));obtain⟨a,s1,s2,Af,cf,fl,h6,hn6⟩:=HCO.ex;have hd:=TL C.l C.l.length root En.out;have hn:=HC.n.2;simp only[aBD]at hn6;have hb:=h6.b;rw[HEQ.2.2.2.2.2.2.2.2.2]at hb;exact ZQ (results_tmp rfl _ _ _) rfl ⟨⟨C,a,s1,s2,Af,cf,fl,rfl,HC.out,h6,by omega,HEQ.out⟩,hb⟩
end
section
attribute [local go_sem] lp
structure Cp(l:List Nd)(B:Nat)(W:World)(v:Value):Prop where
 ex:∃(An Ag Ab Al:Option Addr) (cn cg cb cl:Nat) (ns:List Nat) (fs:List uF) (bs:List Bool) (ls:List CX) (h:Int) (ov:Bool),v= .agg #[.slice An ns.length cn,.slice Ag fs.length cg,.slice Ab bs.length cb,.int .i64 h,.slice Al ls.length cl,.bool ov]/\W.ownsRow B 3 1 (.slice An ns.length cn) ns.length (nA ns)/\W.ownsRow B 43 5 (.slice Ag fs.length cg) fs.length (lO fs)/\(∀f∈fs,qT B W f)/\W.ownsRow B 4 1 (.slice Ab bs.length cb) bs.length (BI bs)/\oh B W (.slice Al ls.length cl) ls/\fs.length=ns.length/\bs.length=ns.length/\ns.length<=l.length/\∀x∈ns,x<l.length
def mkK(l:List Nd)(adv:List Int)(us:List Ft)(hs:List Int)(A A2:Option Addr)(c c2:Nat)(view:Int)(root:Nat)(uA:Option Addr)(uc:Nat)(hA:Option Addr)(hc:Nat)(w:World):Qx:=⟨l,adv,us,hs,A,A2,c,c2,view,root,0,uA,uc,hA,hc,0,0,0,0,0,0,0,0,0,w,w⟩
theorem NwH.at_{l:List Nd}{adv:List Int}{us:List Ft}{hs:List Int}{A A2:Option Addr}{c c2:Nat}{view:Int}{root:Nat}{uA:Option Addr}{uc:Nat}{hA:Option Addr}{hc:Nat}{w W:World}(h:NwH (mkK l adv us hs A A2 c c2 view root uA uc hA hc w))(hb:Below w.heap.size w W):NwH (mkK l adv us hs A A2 c c2 view root uA uc hA hc W):=
 ⟨h.n,P7.more (P7.below h.tr hb) hb.size,Reads.more (Reads.below h.ud hb) hb.size,Reads.more (Reads.below h.hi hb) hb.size,h.qt,h.un,h.u1⟩
theorem Kt.setCells{t:TypeId}{B g:Nat}(hg:g<B):∀(vs:List Value) (o:Nat) (w:World),Kt t B w (w.setCells g o vs)
 | [],_,_=>Kt.refl
 | v::vs,o,w=>(Kt.setCell (p:=⟨g,o,none⟩) v (.inl hg)).trans (Kt.setCells hg vs (o+1) _)
def LG:Array Value:= #[.slice none 0 0,.slice none 0 0,.slice none 0 0,.int .i64 0,.slice none 0 0,.bool false]
def BlockS:Prop:=∀(l:List Nd) (adv:List Int) (us:List Ft) (hs:List Int) (A A2:Option Addr) (c c2:Nat) (view:Int) (root:Nat) (uA:Option Addr) (uc:Nat) (hA:Option Addr) (hc:Nat) (w:World) (hK:NwH (mkK l adv us hs A A2 c c2 view root uA uc hA hc w)) (tf:root<l.length) (qs:mZ l root=true),
 Calls prog 77 #[.agg #[.slice A l.length c,.slice A2 adv.length c2,view],.int .i64 (root:Int),.slice uA us.length uc,.slice hA hs.length hc] w λe w'=>(∃v,e= .returned v/\Cp l w.heap.size w' v)/\Below w.heap.size w w'
end
section
def TW:Prop:=∀(l:List Nd) (adv:List Int) (us:List Ft) (hs:List Int) (A A2:Option Addr) (c c2:Nat) (view:Int) (root:Nat) (uA:Option Addr) (uc:Nat) (hA:Option Addr) (hc:Nat) (w:World) (got:List Cn) (cA:Option Addr) (cc:Nat) (hK:NwH (mkK l adv us hs A A2 c c2 view root uA uc hA hc w)) (tf:root<l.length) (qs:mZ l root=true)
 (hcs:Reads w w.heap.size 4 cA got.length (ly got)) (BR:∀x∈got,JB x) (hub:∀u∈us,CB u.w) (Fg:∀x∈l,x.s.kind≠3->UA x.s) (Oy:l.length<=1000),
 Calls prog 38 #[.agg #[.slice A l.length c,.slice A2 adv.length c2,view],.int .i64 (root:Int),.slice uA us.length uc,.slice cA got.length cc,.slice hA hs.length hc] w λe w'=>(∃v,e= .returned v/\Cp l w.heap.size w' v)/\Below w.heap.size w w'
end
end Go.Proofs.YtjhingednpjogaaGreat
