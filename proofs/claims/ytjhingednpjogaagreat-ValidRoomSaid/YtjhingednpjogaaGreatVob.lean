/- Lemmas for ValidRoom; laid together by a program. -/
import Derived.Test.YtjhingednpjogaaGreatExtent
import Derived.Test.YtjhingednpjogaaGreatAsc
set_option linter.all false
set_option maxRecDepth 100000
set_option maxHeartbeats 4000000
open Go.RowKit
namespace Go.Proofs.YtjhingednpjogaaGreat
open Go.Proofs.Tryz
section
attribute [local go_sem] lp
theorem nU{B:Nat}{a w:World}(h:Below B a w)(n:Nat):Below B a (w.drewN n):=⟨h.os,h.tape,h.output,h.size,h.block⟩
def n1V:Nd:=⟨-1,ni 1 0⟩
def vm:List Nd:=[n1V]
theorem C7:rM [0]:=by intro x hx;simp only[Y7,ZD,DA]at hx;subst hx;decide
theorem WM(a:Addr)(w:World)(hr:Reads w w.heap.size 1 (some a) 1 (lY [0])): Calls prog 161 #[.slice (some a) 1 1,.slice none 0 0] w λe w'=>e= .returned (.slice (some a) 1 1)/\Below w.heap.size w w':=by
 have HC:=X6 (GH [0] a 1 w (by simp) hr);clear hr;go_enter func161,ntmps161;go_wp2_with fail;refine HC.mono ?_;rintro e w1 ⟨⟨A,c,rfl,lV⟩,nY⟩;have HS:=X6 (BG [0] _ w1 C7 (by simp) (pO.own (l:=[0]) lV));have HB:=X6 nY;clear lV nY;go_wp2_with fail;refine ot ?_;go_wp2_with fail;refine HS.mono ?_;rintro e w2 ⟨rfl,mr⟩;have nx:=X6 (HB.trans (mr.mono HB.size));have hc0:lU ([0]:List Int).sum=0:=by decide
 have XH:mG ([0]:List Int).sum=false:=by decide
 rw[hc0,XH];clear mr hc0 XH;go_wp2_with fail;go_ret;exact⟨rfl,nx.out⟩
structure W4Ans(w w':World)(e:Ending):Prop where
 ex:∃v1 v2,e= .returned (.tuple #[v1,v2,false])/\pO w' w'.heap.size v1 [0]/\pO w' w'.heap.size v2 [0]
 b:Below w.heap.size w w'
theorem Lc(g10 g4 g6 g9:Nat)(w:World)(sr:lq w g10 23 #[lH])(b9:lq w g9 23 #[lH]): Calls prog 160 #[.pointer g10,.pointer g4,.pointer g6,.pointer g9] w λe w'=>W4Ans w w' e:=by
 have c9:=b9.c1;have tF:=sr.c1;have l9:=b9.lt;have l10:=sr.lt;clear b9 sr;have HM:=X6 (λW=>UX [] none 0 W (by simp) Reads.none_);obtain⟨w1,mW⟩:∃x,x=w.alloc (.cells #[lx] 2):=⟨_,rfl⟩;obtain⟨w2,ph⟩:∃x,x=w1.alloc (.cells #[lx] 2):=⟨_,rfl⟩;have HS1:Hid (pO w1 w1.heap.size (.slice w.heap.size 1 1) [0]):=X6 (by have:=pO.one w 0;rw[mW];simpa using this);have Dm:Hid (pO w2 w2.heap.size (.slice w1.heap.size 1 1) [0]):=X6 (by have:=pO.one w1 0;rw[ph];simpa using this);have mA:Hid (Below w.heap.size w w1):=X6 (by rw[mW];exact bA);have Zs:Hid (Below w1.heap.size w1 w2):=X6 (by rw[ph];exact bA);have HG:=X6 (WM ⟨w1.heap.size,0,none⟩ w2 (by obtain⟨A,c,e,_,_,hr,_⟩:=Dm.out;injection e with e1 e2 e3;subst e1;exact hr));have L9:=X6 mW;have E6:=X6 ph;clear mW ph;go_enter func160,ntmps160;go_wp2_with fail;refine ot ?_;go_wp2_with fail;refine(HM.out _).mono ?_;rintro e w3 ⟨rfl,zB⟩;obtain rfl:w1=w3:=L9.trans zB;clear zB;go_wp2_with fail;refine(HM.out _).mono ?_;rintro e w3 ⟨rfl,zB⟩;obtain rfl:w2=w3:=E6.trans zB;clear zB;go_wp2_with fail;refine HG.mono ?_;rintro e w3 ⟨rfl,pn⟩;have oK:=X6 (mA.trans ((Zs.mono mA.size).trans (pn.mono (YL mA.size Zs.size))));have HA1:=X6 ((((HS1.below Zs.out).more Zs.size).below pn).more pn.size);have HA2:=X6 ((Dm.below pn).more pn.size);clear pn;go_wp2_with fail
 go_ret3
 exact⟨⟨_,_,rfl,HA1.out,HA2.out⟩,oK.out⟩
structure WaAns(w w':World)(e:Ending):Prop where
 ex:∃g10 g4 g6 g9,e= .returned (.func (.func 160) #[] #[.pointer (some ⟨g10,0,none⟩),.pointer (some ⟨g4,0,none⟩),.pointer (some ⟨g6,0,none⟩),.pointer (some ⟨g9,0,none⟩)])/\lq w' g10 23 #[lH]/\lq w' g9 23 #[lH]
 b:Below w.heap.size w w'
theorem Nb(x1 x2 x3:Value)(Ag:Option Addr)(cg:Nat)(w:World)(h1:x1.oneCell'=true)(h2:x2.oneCell'=true)(h3:x3.oneCell'=true): Calls prog 92 #[.agg #[x1,x2,x3],.agg (lj (ni 1 0)).toArray,.slice none 0 0,.slice Ag 0 cg] w λe w'=>WaAns w w' e:=by
 go_enter func92,ntmps92;go_wp2_with fail;obtain⟨W5,CG⟩:∃W,W=(((((w.alloc (.cells #[x1,x2,x3] 25)).alloc (.cells (lj (ni 1 0)).toArray 63)).alloc (.cells #[lH] 51)).alloc (.cells #[lH] 23)).alloc (.cells #[lH] 23)):=⟨_,rfl⟩;have sR:Hid (Below w.heap.size w W5):=X6 (by rw[CG];exact(((bA.alloc (by simp) _).alloc (by simp;omega) _).alloc (by simp;omega) _).alloc (by simp;omega) _);have B1:lq W5 (w.heap.size+1) 63 (lj (ni 1 0)).toArray:=by rw[CG];exact(((lq.at_ _ _ _ (by simp)).alloc _).alloc _).alloc _
 have B2:lq W5 (w.heap.size+1+1) 51 #[lH]:=by rw[CG];exact((lq.at_ _ _ _ (by simp)).alloc _).alloc _
 have B7:Hid (lq W5 (w.heap.size+1+1+1) 23 #[lH]):=X6 (by rw[CG];exact(lq.at_ _ _ _ (by simp)).alloc _);have NM:Hid (lq W5 (w.heap.size+1+1+1+1) 23 #[lH]):=X6 (by rw[CG];exact lq.at_ _ _ _ (by simp));have s0:W5.cell? (w.heap.size+1,0)=some (.int .u8 1):=B1.get 0 rfl;have k0:=B2.c1;have l1:=B1.lt;have l2:=B2.lt;rw[<-CG];clear CG B1 B2;refine ot ?_;go_upto_region 12 with(fail)
 go_quiet (fail);go_wp2_with fail;go_ret;exact⟨⟨_,_,_,_,rfl,NM.drewN _,B7.drewN _⟩,nU sR.out _⟩
theorem nds1V:lI vm= .int .i64 (-1)::lj (ni 1 0):=by simp[vm,n1V,lI,oe]
theorem sO{W:World}{gN:Nat}(h:lq W gN 65 (lI vm).toArray):W.rangeAt gN 1 (lj (ni 1 0)):=rk h λj v hv=>by rw[nds1V,Nat.add_comm];exact hv
structure NoV(s:me)(bt:Array Value)(w wr:World):Prop where
 t:lq wr (w.heap.size) 25 bt
 n:lq wr (w.heap.size+1) 38 #[lx,lx,lx,lx]
 s:lq wr (w.heap.size+1+1) 63 (lj s).toArray
 b:Below w.heap.size w wr
theorem NoV.kept{s:me}{bt:Array Value}{w wr w':World}(h:NoV s bt w wr)(hb:Below wr.heap.size wr w'):NoV s bt w w':=
 ⟨h.t.below hb h.t.lt,h.n.below hb h.n.lt,h.s.below hb h.s.lt,h.b.trans (hb.mono h.b.size)⟩
theorem NoV.xq{s:me}{bt:Array Value}{w wr:World}(h:NoV s bt w wr)(i:Nat)(hi:i<4):NoV s bt w (wr.setCell (w.heap.size+1,i) (.int .i64 0)):=
 ⟨h.t.lQ (by simp) _,by
  have:=h.n.lA i (.int .i64 0);rcases i with _ | _ | _ | _ | i
  ·simpa using this
  ·simpa using this
  ·simpa using this
  ·simpa using this
  ·omega,h.s.lQ (by simp) _,h.b.setCell (p:=(w.heap.size+1,i)) (by simp) _⟩
theorem pO.stV{s:me}{bt:Array Value}{w wr:World}{v:Value}{l:List Int}(h:pO wr wr.heap.size v l)(hn:NoV s bt w wr)(i:Nat)(u:Value):pO (wr.setCell (w.heap.size+1,i) u) (wr.setCell (w.heap.size+1,i) u).heap.size v l:=
 (h.lA hn.n (by decide) i u).more (by simp[World.setCell])
theorem RA{fn:Func}(hr:fn.results= #[.cell 8 38,.tmp 9])(tmps:Array Value)(w:World)(g:Nat)(a b c d:Int)(v9:Value)(hp:tmps.getD 8 undef= .pointer g)(h9:tmps.getD 9 undef=v9)(hg:lq w g 38 #[a,b,c,d]): (results fn tmps).run prog w= .ok (.tuple #[.agg #[a,b,c,d],v9]) w:=by rw[aC5 hr,hp,h9];have h:=aBM (P:=prog) w g 38 38 #[.int .i64 a,.int .i64 b,.int .i64 c,.int .i64 d] (0,0) _ hg underlying38 rfl (by kernel_rfl);simp[asAddr,h,Result.andThen]
theorem I4(k f:Int):zp (ni k f):=by
 have h1:(0:Int)<=0/\(0:Int)<=1099511627776:=by decide
 have h2:(-1099511627776:Int)<=0/\(0:Int)<=1099511627776:=by decide
 exact⟨h1,h1,h1,h2,h2,h1,h1,h1,h1⟩
theorem P0:lU (MY (ni 1 0) ([0]:List Int).sum)=0/\mG (MY (ni 1 0) ([0]:List Int).sum)=false:=by decide +kernel
theorem PY:lU ([0]:List Int).sum=0/\mG ([0]:List Int).sum=false:=by decide +kernel
theorem Sn(gN:Nat)(v:Int)(Ag:Option Addr)(cg:Nat)(w:World)(hn:lq w gN 65 (lI vm).toArray)(hg:Reads w w.heap.size 4 Ag 0 (ly [])): Calls prog 46 #[.agg #[.slice gN 1 1,lH,v],.int .i64 0,.slice none 0 0,.slice Ag 0 cg] w λe w'=>e= .returned (.tuple #[.agg #[lx,lx,lx,lx],false])/\Below w.heap.size w w':=by
 have y0:w.cell? (gN,1)=some (.int .u8 1):=hn.get 1 rfl;have hz:=hn.lt;have HC:Hid (∀o o2:Obj,((w.alloc o).alloc o2).rangeAt gN 1 (lj (ni 1 0))):=X6 (λo o2=>sO ((hn.alloc o).alloc o2));have HO:=X6 (me.one (ni 1 0) (A:=none) (n:=0) (c:=0) rfl);have tC:∀W:World,(Instr.makeSlice 28 (.int .i64 0) (.int .i64 0)).run prog W= .ok (.slice W.heap.size 0 0) (W.alloc (.cells (ly (List.replicate 0 yS)).toArray 38)):=λW=>AT 0 (by omega) W;have oK:Hid (Below w.heap.size w (((w.alloc (.cells #[.slice gN 1 1,lH,v] 25)).alloc (.cells #[lx,lx,lx,lx] 38)).alloc (.cells (lj (ni 1 0)).toArray 63))):=X6 ((bA.alloc (by simp) _).alloc (by simp;omega) _);have Tf:=X6 oK.size;have HG3:=X6 (hg.below oK.out);have HGZ:Hid (w.heap.size+1+1+1=(((w.alloc (.cells #[.slice gN 1 1,lH,v] 25)).alloc (.cells #[lx,lx,lx,lx] 38)).alloc (.cells (lj (ni 1 0)).toArray 63)).heap.size):=X6 (by simp);obtain⟨v50,hcp⟩:=Jd (P:=prog) (((w.alloc (.cells #[.slice gN 1 1,lH,v] 25)).alloc (.cells #[lx,lx,lx,lx] 38)).alloc (.cells (lj (ni 1 0)).toArray 63)) 28 28 3 38 yk.ht (by kernel_rfl) 0 cg [] 38 HG3.out Tf.out;rw[<-HGZ.out]at hcp;simp only[aBD,List.replicate_zero]at hcp;obtain⟨W4,hW4⟩:∃W,W=(((w.alloc (.cells #[.slice gN 1 1,lH,v] 25)).alloc (.cells #[lx,lx,lx,lx] 38)).alloc (.cells (lj (ni 1 0)).toArray 63)).alloc (.cells (ly (qe [] 0)).toArray 38):=⟨_,rfl⟩;have HN4:Hid (NoV (ni 1 0) #[.slice gN 1 1,lH,v] w W4):=X6 (by rw[hW4];exact⟨(((lq.new _ _ _).alloc _).alloc _).alloc _,((lq.at_ _ _ _ (by simp)).alloc _).alloc _,(lq.at_ _ _ _ (by simp)).alloc _,oK.alloc Tf.out _⟩);have pP:=X6 (qF HN4.s);have vL:=X6 hW4;clear hn hg hW4;go_enter func46,ntmps46;go_upto_region 6 with(first
  | refine wpList_load_mid rfl 63 _ rfl gN 1 rfl (lj (ni 1 0)) _ (HC.out _ _) underlying63 rfl (by kernel_rfl) ?_
  | refine lJ rfl 63 _ _ rfl (w.heap.size+1+1) (by simp) (lj (ni 1 0)).toArray rfl rfl 63 _ (by kernel_rfl) rfl HO.out ?_)
 rw[<-vL.out];clear hcp tC y0;have t0:=HN4.t.get 0 rfl;have t1:=HN4.t.get 1 rfl;have t2:=HN4.t.get 2 rfl;have tl:=HN4.t.lt;go_wp2_with (refine wpList_load_mid rfl 63 _ rfl (w.heap.size+1+1) 0 rfl (lj (ni 1 0)) _ pP.out underlying63 rfl (by kernel_rfl) ?_);refine(Nb _ _ _ _ _ _ rfl rfl rfl).mono ?_;rintro e w5 ⟨⟨g10,g4,g6,g9,rfl,sr,b9⟩,wE⟩;have HN5:=X6 (HN4.kept wE);have Cb:=X6 (Lc g10 g4 g6 g9 w5 sr b9);clear wE sr b9 t0 t1 t2 tl;go_wp2_with fail;refine Cb.mono ?_;rintro e w6 ⟨⟨vl,vg,rfl,sl,sg⟩,VI⟩;have TB:=X6 (HN5.kept VI);have HL6:=X6 sl;have zq:=X6 sg;clear VI sl sg;go_wp2_with fail;refine(BG [0] vl w6 C7 (by simp) HL6.out).mono ?_;rintro e w7 ⟨rfl,qk⟩;have HN7:=X6 (TB.kept qk);have M8:=X6 ((HL6.below qk).more qk.size);have Zi:=X6 ((zq.below qk).more qk.size);rw[PY.1,PY.2];clear qk;have q0:=HN7.n.get 0 rfl;have ql:=HN7.n.lt;have qf:=HN7.n.frozen 0;have HN8:=X6 (HN7.xq 0 (by omega));have HL8:=X6 (M8.stV HN7.out 0 (.int .i64 0));have HG8:=X6 (Zi.stV HN7.out 0 (.int .i64 0));go_wp2_with fail;refine(BG [0] vg _ C7 (by simp) HG8.out).mono ?_;rintro e w9 ⟨rfl,mH⟩;have Ys:=X6 (HN8.kept mH);have HL9:=X6 ((HL8.below mH).more mH.size);have HG9:=X6 ((HG8.below mH).more mH.size);rw[PY.1,PY.2];clear mH q0 ql qf;have q1:=Ys.n.get 1 rfl;have ql:=Ys.n.lt;have qf:=Ys.n.frozen 1;have HN10:=X6 (Ys.xq 1 (by omega));have Xe:=X6 (HL9.stV Ys.out 1 (.int .i64 0));have HG10:=X6 (HG9.stV Ys.out 1 (.int .i64 0));have HRG10:=X6 (qF HN10.s);go_wp2_with (refine wpList_load_mid rfl 63 _ rfl (w.heap.size+1+1) 0 rfl (lj (ni 1 0)) _ HRG10.out underlying63 rfl (by kernel_rfl) ?_);refine(Gm (ni 1 0) [0] vl _ (I4 1 0) C7 (by simp) Xe.out rfl).mono ?_;rintro e xM ⟨rfl,wh⟩;have Uj:=X6 (HN10.kept wh);have HG11:=X6 ((HG10.below wh).more wh.size);rw[P0.1,P0.2];clear wh q1 ql qf;have q2:=Uj.n.get 2 rfl;have ql:=Uj.n.lt;have qf:=Uj.n.frozen 2;have HN12:=X6 (Uj.xq 2 (by omega));have HG12:=X6 (HG11.stV Uj.out 2 (.int .i64 0));have HRG12:=X6 (qF HN12.s);go_wp2_with (refine wpList_load_mid rfl 63 _ rfl (w.heap.size+1+1) 0 rfl (lj (ni 1 0)) _ HRG12.out underlying63 rfl (by kernel_rfl) ?_);refine(Gm (ni 1 0) [0] vg _ (I4 1 0) C7 (by simp) HG12.out rfl).mono ?_;rintro e DI ⟨rfl,hb13⟩;have FG:=X6 (HN12.kept hb13);rw[P0.1,P0.2];clear hb13 q2 ql qf;have q0:=FG.n.get 0 rfl;have q1:=FG.n.get 1 rfl;have q2:=FG.n.get 2 rfl;have q3:=FG.n.get 3 rfl;have ql:=FG.n.lt;have qf0:=FG.n.frozen 0;have qf1:=FG.n.frozen 1;have qf2:=FG.n.frozen 2;have qf3:=FG.n.frozen 3;have HN14:=X6 (FG.xq 3 (by omega));have HN15:=X6 ((((HN14.xq 0 (by omega)).xq 1 (by omega)).xq 2 (by omega)).xq 3 (by omega));go_wp2_with fail;refine ZQ (RA results46 _ _ (w.heap.size+1) 0 0 0 0 _ rfl rfl HN15.n) rfl ?_;exact⟨by simp,HN15.b⟩
end
section
attribute [local go_sem] lp
theorem eqUdV(a1 a2 a3 b1 b2 b3:Int)(w:World):(Op.equalIn 10000 40 (.agg #[a1,a2,a3]) (.agg #[b1,b2,b3])).run prog w= .ok (a1 == b1 && a2 == b2 && a3 == b3) w:=by
 have u2:=underlying2;have g2:=Tryz.isAgg2;have z2:=Tryz.sizeOf2;have hS:prog.underlying 40=some (.struct (prog.fieldsOf 40)):=by kernel_rfl
 have hp:prog.stoodInHeld 40=false:=by kernel_rfl
 rw[show(10000:Nat)=9999+1 from rfl,run_equalIn_agg w 9999 40 _ _ hS hp];simp only[Program.fieldsOf,underlying40];go_simp;by_cases h1:a1=b1<;>by_cases h2:a2=b2<;>by_cases h3:a3=b3<;>simp[h1,h2,h3]
theorem Wt(op:BinOp)(x y:Operand)(xs ys:Array Value)(w:World):(eqGuard op 40 x y (.agg xs) (.agg ys)).run prog w= .ok () w:=aDD w op _ x y xs ys (by kernel_rfl)
theorem index0(A:Option Addr)(c:Nat)(w:World):Calls prog 147 #[.slice A 0 c,true] w λe w'=>e= .returned (.int .i64 (-1))/\w=w':=by go_enter func147,ntmps147;go_wp2_with fail;refine ot ?_;go_wp2_with fail;go_ret;exact⟨rfl,rfl⟩
theorem Hm(A:Option Addr)(c:Nat)(w:World):Calls prog 88 #[.slice A 0 c,true] w λe w'=>e= .returned false/\w=w':=by have HI:=X6 (index0 A c w);go_enter func88,ntmps88;go_wp2_with fail;refine HI.mono ?_;rintro e w1 ⟨rfl,rfl⟩;go_wp2_with fail;go_ret;exact⟨rfl,rfl⟩
theorem aan(F:Value)(w:World):Calls prog 148 #[lH,lH,F] w λe w'=>e= .returned true/\w=w':=by go_enter func148,ntmps148;go_wp2_with fail;refine ot ?_;go_wp2_with fail;go_ret;exact⟨rfl,rfl⟩
theorem lines0(w:World):Calls prog 90 #[lH,lH] w λe w'=>e= .returned true/\w=w':=by have HI:=X6 (λF=>aan F w);go_enter func90,ntmps90;go_wp2_with fail;refine(HI.out _).mono ?_;rintro e w1 ⟨rfl,rfl⟩;go_wp2_with fail;go_ret;exact⟨rfl,rfl⟩
def frV:Array Value:= #[.int .i64 0,.int .i64 0,.int .i64 100,.int .i64 0,.slice none 0 0]
theorem Mj(w:World):Calls prog 89 #[.agg frV,.agg frV] w λe w'=>e= .returned true/\Below w.heap.size w w':=by have HB:Hid (∀o o2:Obj,Below w.heap.size w ((w.alloc o).alloc o2)):=X6 (λo o2=>bA.alloc (by simp) _);unfold frV;go_enter func89,ntmps89;go_wp2_with fail;go_ret;exact⟨rfl,HB.out _ _⟩
end
end Go.Proofs.YtjhingednpjogaaGreat
