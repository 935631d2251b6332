/- Lemmas for ValidRoom; laid together by a program. -/
import Derived.Test.YtjhingednpjogaaGreatVon
set_option linter.all false
set_option maxRecDepth 100000
set_option maxHeartbeats 4000000
namespace Go.Proofs.YtjhingednpjogaaGreat
open Go.Proofs.Tryz
open Go.RowKit
attribute [local go_sem] lp
def KZ(L:Array Bool):Nat:=((List.range L.size).filter λj=>L.getD j true == false).length
theorem Lq{L:Array Bool}{i:Nat}(h:L.getD i true=false):KZ (L.setIfInBounds i true)<KZ L:=by
 have hi:i<L.size:=by
  rcases Z6 i L.size with h2 | h2
  ·exact h2
  ·simp[ZC h2]at h
 unfold KZ;rw[Array.size_setIfInBounds];have e:(List.range L.size).filter (λj=>(L.setIfInBounds i true).getD j true == false)=((List.range L.size).filter λj=>L.getD j true == false).filter λj=>decide (j≠i):=by
  rw[List.filter_filter];refine List.filter_congr λj hj=>?_;have hj':=ZK.1 hj;by_cases Cq:j=i
  ·subst Cq;simp[hi]
  ·rw[aDH true (Ck Cq)];simp[Cq]
 rw[e];refine List.length_filter_lt_length_iff_exists.2 ⟨i,?_,by simp⟩;rw[ZI];exact⟨ZK.2 hi,by rw[h];rfl⟩
section
variable{P:Program}{ops:Array Oper}{Q:Exit->Act->World->Prop}{md:Region.Mode}
theorem Hy(I:Array Bool->Act->World->Prop)(PT:∀L a w i,I L a w->i∈Region.ready md ops L->wpOp P ops Q i (λa' w'=>I (L.setIfInBounds i true) a' w') a w)(LK:∀L a w,I L a w->Region.ready md ops L=[]->Q .normal a w):
  ∀(n:Nat) (L:Array Bool) (a:Act) (w:World),KZ L<=n->I L a w->wpAny P md ops Q n L a w
 | 0,L,a,w,hn,hI=>by
  have hr:Region.ready md ops L=[]:=by
   apply List.eq_nil_iff_forall_not_mem.2
   intro i hi
   have:=Lq (mem_ready.1 hi).1
   omega
  exact⟨hr,LK L a w hI hr⟩
 | n+1,L,a,w,hn,hI=>⟨λe=>LK L a w hI e,λi hi=>wpOp_mono (λa' w' h'=>Hy I PT LK n _ a' w' (by have:=Lq (mem_ready.1 hi).1;omega) h') (PT L a w i hI hi)⟩
theorem uD{L:Array Bool}(he:Region.ready md ops L=[])(j:Nat){o:Oper}(ho:ops[j]? =some o:=by exact rfl)(h:∀e∈o.after,Region.binds md e=true->L.getD e.on false=true:=by simp[Region.binds]):L.getD j true=true:=by
 cases hb:L.getD j true
 ·have h0:j∈Region.ready md ops L:=mem_ready.2 ⟨hb,o,ho,h⟩;rw[he]at h0;exact absurd h0 (by simp)
 ·rfl
theorem uC{id:Nat}{a:Act}{w:World}(I:Array Bool->Act->World->Prop)(hm:P.follows .mixedOrders=true)(h0:I (Array.replicate ops.size false) a w.drew) (PT:∀L a w i,I L a w->i∈Region.ready .any ops L->wpOp P ops Q i (λa' w'=>I (L.setIfInBounds i true) a' w') a w) (LK:∀L a w,I L a w->Region.ready .any ops L=[]->Q .normal a w):(Code.region id ops true).wp P Q a w:=
 wp_region_any hm (Hy I PT LK _ _ _ _ (by unfold KZ;refine YL (Z9 _ _) (by simp)) h0)
end
section
variable{P:Program}{ops:Array Oper}{Q:Exit->Act->World->Prop}
theorem mh{i:Nat}{o:Oper}{v:Value}{a:Act}{w X:World}{K:Act->World->Prop}(hi:ops[i]? =some o)(hw:Region.wanted o (yielded ops a.tmps)=true)(hr:(execOp a.eval o).run P w= .ok (.value v) X)(h:K (a.put o.dst v) X):wpOp P ops Q i K a w:=
 vh (T:=λw'=>w'=X) hi hw (by rw[hr];exact⟨rfl,rfl⟩) (λw' e=>by rw[e];exact h)
theorem Bw{i:Nat}{o:Oper}{a:Act}{w X:World}{K:Act->World->Prop}(hi:ops[i]? =some o)(hw:Region.wanted o (yielded ops a.tmps)=true)(hr:(execOp a.eval o).run P w= .ok .skip X)(h:K (a.put o.dst undef) X):wpOp P ops Q i K a w:=
 vh (T:=λw'=>w'=X) (v:=undef) hi hw (by rw[hr];exact⟨rfl,rfl⟩) (λw' e=>by rw[e];exact h)
end
theorem mM{g g':Nat}{t:TypeId}{cs:Array Value}(hg:g≠g'):∀(vs:List Value) (o:Nat) (w:World),lq w g t cs->lq (w.setCells g' o vs) g t cs
 | [],_,_,h=>h
 | v::vs,o,w,h=>mM hg vs (o+1) _ (h.lQ (p:=⟨g',o,none⟩) hg v)
theorem Og{fn:Func}{p q:Tmp}{ty ty2:TypeId}(h:fn.results= #[.cell p ty,.cell q ty2])(tmps:Array Value)(P:Program)(w:World): (results fn tmps).run P w= ((asAddr (tmps.getD p undef)).run P w).andThen λa w₁=>((loadVar ty a).run P w₁).andThen λv w₂=>((asAddr (tmps.getD q undef)).run P w₂).andThen λb w₃=>((loadVar ty2 b).run P w₃).andThen λx w₄=> .ok (.tuple #[v,x]) w₄:=by simp only[results,h];simp[PZ,Result.andThen]
theorem Xj{fn:Func}(hr:fn.results= #[.cell 0 25,.cell 1 32])(tmps:Array Value)(w:World)(g gd:Nat)(a b c x y z u:Value)(hp:tmps.getD 0 undef= .pointer g)(hp7:tmps.getD 1 undef= .pointer gd)(hg:lq w g 25 #[a,b,c])(hd:lq w gd 32 #[x,y,z,u]): (results fn tmps).run prog w= .ok (.tuple #[.agg #[a,b,c],.agg #[x,y,z,u]]) w:=by rw[Og hr,hp,hp7];have h:=aBM (P:=prog) w g 25 25 #[a,b,c] (0,0) _ hg underlying25 rfl (by kernel_rfl);have h7:=aBM (P:=prog) w gd 32 32 #[x,y,z,u] (0,0) _ hd underlying32 rfl (by kernel_rfl);simp[asAddr,h,h7,Result.andThen]
section
variable{w:World}
def OneI(gR gX gT gN:Nat)(s3 s4 s5 s6:Value)(w:World)(L:Array Bool)(a:Act)(W:World):Prop:=
 ∃(b0 b1 b2 b3 b4 b5 b6 b7 b8 b9:Bool) (gC gU gH gF:Nat),L= #[b0,b1,b2,b3,b4,b5,b6,b7,b8,b9]/\a=({tmps:= #[.pointer gR,.pointer gX,.pointer gT,s3,s4,s5,s6,if b0 then .agg #[.slice gN 1 1,.slice none 0 0,.int .i64 100]else undef,if b1 then .slice gC 1 1 else undef,if b2 then .agg #[.int .i64 100,.int .i64 0,.int .i64 0]else undef,if b3 then .slice gU 1 1 else undef,if b4 then .slice gH 1 1 else undef,if b5 then .agg #[.int .i64 0,.int .i64 0,.int .i64 100,.int .i64 0,.slice none 0 0]else undef,if b6 then .slice gF 1 1 else undef,if b7 then .agg #[.slice gC 1 1,.slice gU 1 1,.slice gH 1 1,.slice gF 1 1]else undef],defers:=[]}:Act)/\(b1=true->lq W gC 38 #[lx,lx,lx,lx])/\(b3=true->lq W gU 40 #[.int .i64 100,lx,lx])/\(b4=true->lq W gH 2 #[lx])/\(b6=true->lq W gF 43 #[lx,lx,.int .i64 100,lx,lH])/\lq W gT 25 #[.slice gN 1 1,lH,.int .i64 100]/\lq W gN 65 (lI vm).toArray/\lq W gR 25 (if b8 then #[.slice gN 1 1,.slice none 0 0,.int .i64 100]else #[.slice none 0 0,.slice none 0 0,.int .i64 0])/\lq W gX 32 (if b9 then #[.slice gC 1 1,.slice gU 1 1,.slice gH 1 1,.slice gF 1 1]else #[.slice none 0 0,.slice none 0 0,.slice none 0 0,.slice none 0 0])/\Below w.heap.size w W/\(b7=true->b1=true/\b3=true/\b4=true/\b6=true)/\(b9=true->b7=true)
theorem aaA:Calls prog 18 #[] w λe w'=>(∃gN gC gU gH gF,e= .returned (.tuple #[.agg #[.slice (some ⟨gN,0,none⟩) 1 1,lH,.int .i64 100],.agg #[.slice (some ⟨gC,0,none⟩) 1 1,.slice (some ⟨gU,0,none⟩) 1 1,.slice (some ⟨gH,0,none⟩) 1 1,.slice (some ⟨gF,0,none⟩) 1 1]])/\lq w' gN 65 (lI vm).toArray/\IB gC gU gH gF 100 w')/\Below w.heap.size w w':=by
 have HO:=X6 (me.one (ni 1 0) (A:=none) (n:=0) (c:=0) rfl);obtain⟨w1,mW⟩:∃W,W=(w.alloc (.cells #[lH,lH,lx] 25)).alloc (.cells #[lH,lH,lH,lH] 32):=⟨_,rfl⟩;have sI:Hid (lq w1 w.heap.size 25 #[lH,lH,lx]):=X6 (by rw[mW];exact(lq.new _ _ _).alloc _);have rK:Hid (lq w1 (w.heap.size+1) 32 #[lH,lH,lH,lH]):=X6 (by rw[mW];exact lq.at_ _ _ _ (by simp));have mA:Hid (Below w.heap.size w w1):=X6 (by rw[mW];exact bA.alloc (by simp) _);go_enter func18,ntmps18;go_upto_region 1 with(fail)
 rw[<-mW];clear mW;refine aDK ?_;refine wpList_build rfl 63 #[(0,.const (.int .u8 1))] rfl (.agg (lj (ni 1 0)).toArray) (by kernel_rfl) ?_;try simp only[Act.put,X8,YF,YE,YD,YA,YB]
 refine wpList_build rfl 65 #[(0,.const (.int .i64 (-1))),(1,.tmp 3)] rfl (.agg (lI vm).toArray) (by kernel_rfl) ?_;try simp only[Act.put,X8,YF,YE,YD,YA,YB]
 obtain⟨gN,hgN⟩:∃g,g=w1.heap.size:=⟨_,rfl⟩;obtain⟨w2,ph⟩:∃W,W=w1.alloc (.cells (lI vm).toArray 65):=⟨_,rfl⟩;have JV:Hid (lq w2 gN 65 (lI vm).toArray):=X6 (by rw[ph,hgN];exact lq.new _ _ _);have CZ:Hid (lq w2 w.heap.size 25 #[lH,lH,lx]):=X6 (by rw[ph];exact sI.alloc _);have tX:Hid (lq w2 (w.heap.size+1) 32 #[lH,lH,lH,lH]):=X6 (by rw[ph];exact rK.alloc _);have nx:Hid (Below w.heap.size w w2):=X6 (by rw[ph];exact mA.alloc mA.size _);refine qQ rfl 22 1 #[(0,.tmp 4)] rfl (.slice w1.heap.size 1 1) (w1.alloc (.cells (lI vm).toArray 65)) (by kernel_rfl) ?_;try simp only[Act.put,X8,YF,YE,YD,YA,YB]
 rw[<-ph,<-hgN];clear ph hgN;refine wpList_build rfl 25 #[(2,.const (.int .i64 100)),(0,.tmp 5)] rfl (.agg #[.slice gN 1 1,lH,.int .i64 100]) (by kernel_rfl) ?_;try simp only[Act.put,X8,YF,YE,YD,YA,YB]
 refine pA (v:= .pointer w2.heap.size) (w':=w2.alloc (.cells #[lH,lH,lx] 25)) rfl (by kernel_rfl) ?_;try simp only[Act.put,X8,YF,YE,YD,YA,YB]
 refine wpList_store_mid rfl 25 (.tmp 2) (.tmp 6) rfl w2.heap.size 0 #[.slice gN 1 1,.slice none 0 0,.int .i64 100] rfl rfl (nE (lq.new w2 25 #[lH,lH,lx]) (X7 _)) (by kernel_rfl) (by kernel_rfl) ?_;try simp only[Act.put,X8,YF,YE,YD,YA,YB]
 obtain⟨w3,zB⟩:∃W,W=(w2.alloc (.cells #[lH,lH,lx] 25)).setCells w2.heap.size 0 (#[.slice gN 1 1,.slice none 0 0,.int .i64 100]:Array Value).toList:=⟨_,rfl⟩;have tH:(w2.alloc (.cells #[lH,lH,lx] 25)).heap.size=w2.heap.size+1:=by simp
 have far3:∀(g:Nat) (t:TypeId) (cs:Array Value),g≠w2.heap.size->lq w2 g t cs->lq w3 g t cs:=λg t cs hg h=>by rw[zB];exact(((h.alloc _).lQ (p:=(w2.heap.size,0)) hg _).lQ (p:=(w2.heap.size,1)) hg _).lQ (p:=(w2.heap.size,2)) hg _
 have BE:Hid (lq w3 w2.heap.size 25 #[.slice gN 1 1,lH,.int .i64 100]):=X6 (by rw[zB];exact pC (#[.slice gN 1 1,.slice none 0 0,.int .i64 100]:Array Value).toList 0 _ _ (lq.new w2 25 #[lH,lH,lx]));have wD:=X6 (far3 _ _ _ (by have:=JV.lt;omega) JV.out);have vV:=X6 (far3 _ _ _ (by have:=CZ.lt;omega) CZ.out);have zF:=X6 (far3 _ _ _ (by have:=tX.lt;omega) tX.out);have oK:Hid (Below w.heap.size w w3):=X6 (by rw[zB];exact mQ (g:=w2.heap.size) nx.size _ _ _ _ (nx.alloc nx.size _));have HGT:Hid (w.heap.size+1<w2.heap.size):=X6 tX.lt;obtain⟨gT,D4⟩:∃g,g=w2.heap.size:=⟨_,rfl⟩;rw[<-D4]at BE HGT;rw[<-zB,<-D4];clear zB far3 tH D4;go_upto_region 2 with(fail)
 refine uC (OneI w.heap.size (w.heap.size+1) gT gN (.agg (lj (ni 1 0)).toArray) (.agg (lI vm).toArray) (.slice gN 1 1) (.agg #[.slice gN 1 1,lH,.int .i64 100]) w) (by kernel_rfl) ?_ ?_ ?_
 ·refine⟨false,false,false,false,false,false,false,false,false,false,0,0,0,0,rfl,rfl,(by simp),(by simp),(by simp),(by simp),BE.drew,wD.drew,vV.drew,zF.drew,oK.drew,(by simp),(by simp)⟩
 ·rintro L a W i ⟨b0,b1,b2,b3,b4,b5,b6,b7,b8,b9,gC,gU,gH,gF,rfl,rfl,m1,m3,m4,m6,mT,mN,mR,mX,mB,XQ,Yb⟩ hi;obtain⟨nt,oi,nz,mO⟩:=mem_ready.1 hi;have lN:i<10:=by
   rcases Z6 i 10 with h | h
   ·exact h
   ·rw[aCT,ZC (by simpa using h)]at nt;simp at nt
  clear hi;rcases(by omega:i=0\/i=1\/i=2\/i=3\/i=4\/i=5\/i=6\/i=7\/i=8\/i=9)with rfl | rfl | rfl | rfl | rfl | rfl | rfl | rfl | rfl | rfl
  ·skip
   injection nz with nz;subst nz;simp[Region.binds]at nt mO;subst nt;have t0:=mT.get 0 rfl;have t1:=mT.get 1 rfl;have t2:=mT.get 2 rfl;have tl:=mT.lt;refine mh (v:= .agg #[.slice gN 1 1,.slice none 0 0,.int .i64 100]) (X:=W) rfl rfl (by go_simp) ?_;refine⟨true,b1,b2,b3,b4,b5,b6,b7,b8,b9,gC,gU,gH,gF,rfl,rfl,m1,m3,m4,m6,mT,mN,mR,mX,mB,XQ,Yb⟩
  ·skip
   injection nz with nz;subst nz;simp[Region.binds]at nt mO;subst nt;have e7:b7=false:=by
    cases b7
    ·rfl
    ·have:=XQ rfl;simp at this
   subst e7;have e9:b9=false:=by
    cases b9
    ·rfl
    ·have:=Yb rfl;simp at this
   subst e9;refine mh (v:= .slice W.heap.size 1 1) (X:=W.alloc (.cells #[lx,lx,lx,lx] 38)) rfl rfl (by kernel_rfl) ?_;refine⟨b0,true,b2,b3,b4,b5,b6,false,b8,false,W.heap.size,gU,gH,gF,rfl,rfl,λ_=>lq.new _ _ _,λh=>(m3 h).alloc _,λh=>(m4 h).alloc _,λh=>(m6 h).alloc _,mT.alloc _,mN.alloc _,mR.alloc _,mX.alloc _,mB.alloc mB.size _,(by simp),(by simp)⟩
  ·skip
   injection nz with nz;subst nz;simp[Region.binds]at nt mO;subst nt;refine mh (v:= .agg #[.int .i64 100,.int .i64 0,.int .i64 0]) (X:=W) rfl rfl (by kernel_rfl) ?_;refine⟨b0,b1,true,b3,b4,b5,b6,b7,b8,b9,gC,gU,gH,gF,rfl,rfl,m1,m3,m4,m6,mT,mN,mR,mX,mB,XQ,Yb⟩
  ·skip
   injection nz with nz;subst nz;simp[Region.binds]at nt mO;subst nt;subst mO;have e7:b7=false:=by
    cases b7
    ·rfl
    ·have:=XQ rfl;simp at this
   subst e7;have e9:b9=false:=by
    cases b9
    ·rfl
    ·have:=Yb rfl;simp at this
   subst e9;refine mh (v:= .slice W.heap.size 1 1) (X:=W.alloc (.cells #[.int .i64 100,lx,lx] 40)) rfl rfl (by kernel_rfl) ?_;refine⟨b0,b1,true,true,b4,b5,b6,false,b8,false,gC,W.heap.size,gH,gF,rfl,rfl,λh=>(m1 h).alloc _,λ_=>lq.new _ _ _,λh=>(m4 h).alloc _,λh=>(m6 h).alloc _,mT.alloc _,mN.alloc _,mR.alloc _,mX.alloc _,mB.alloc mB.size _,(by simp),(by simp)⟩
  ·skip
   injection nz with nz;subst nz;simp[Region.binds]at nt mO;subst nt;have e7:b7=false:=by
    cases b7
    ·rfl
    ·have:=XQ rfl;simp at this
   subst e7;have e9:b9=false:=by
    cases b9
    ·rfl
    ·have:=Yb rfl;simp at this
   subst e9;refine mh (v:= .slice W.heap.size 1 1) (X:=W.alloc (.cells #[lx] 2)) rfl rfl (by kernel_rfl) ?_;refine⟨b0,b1,b2,b3,true,b5,b6,false,b8,false,gC,gU,W.heap.size,gF,rfl,rfl,λh=>(m1 h).alloc _,λh=>(m3 h).alloc _,λ_=>lq.new _ _ _,λh=>(m6 h).alloc _,mT.alloc _,mN.alloc _,mR.alloc _,mX.alloc _,mB.alloc mB.size _,(by simp),(by simp)⟩
  ·skip
   injection nz with nz;subst nz;simp[Region.binds]at nt mO;subst nt;refine mh (v:= .agg #[.int .i64 0,.int .i64 0,.int .i64 100,.int .i64 0,.slice none 0 0]) (X:=W) rfl rfl (by kernel_rfl) ?_;refine⟨b0,b1,b2,b3,b4,true,b6,b7,b8,b9,gC,gU,gH,gF,rfl,rfl,m1,m3,m4,m6,mT,mN,mR,mX,mB,XQ,Yb⟩
  ·skip
   injection nz with nz;subst nz;simp[Region.binds]at nt mO;subst nt;subst mO;have e7:b7=false:=by
    cases b7
    ·rfl
    ·have:=XQ rfl;simp at this
   subst e7;have e9:b9=false:=by
    cases b9
    ·rfl
    ·have:=Yb rfl;simp at this
   subst e9;refine mh (v:= .slice W.heap.size 1 1) (X:=W.alloc (.cells #[lx,lx,.int .i64 100,lx,lH] 43)) rfl rfl (by kernel_rfl) ?_;refine⟨b0,b1,b2,b3,b4,true,true,false,b8,false,gC,gU,gH,W.heap.size,rfl,rfl,λh=>(m1 h).alloc _,λh=>(m3 h).alloc _,λh=>(m4 h).alloc _,λ_=>lq.new _ _ _,mT.alloc _,mN.alloc _,mR.alloc _,mX.alloc _,mB.alloc mB.size _,(by simp),(by simp)⟩
  ·skip
   injection nz with nz;subst nz;simp[Region.binds]at nt mO;subst nt;obtain⟨rfl,rfl,rfl,rfl⟩:=mO;refine mh (v:= .agg #[.slice gC 1 1,.slice gU 1 1,.slice gH 1 1,.slice gF 1 1]) (X:=W) rfl rfl (by kernel_rfl) ?_;refine⟨b0,true,b2,true,true,b5,true,true,b8,b9,gC,gU,gH,gF,rfl,rfl,m1,m3,m4,m6,mT,mN,mR,mX,mB,(λ_=>⟨rfl,rfl,rfl,rfl⟩),(λ_=>rfl)⟩
  ·skip
   injection nz with nz;subst nz;simp[Region.binds]at nt mO;subst nt;subst mO;refine Bw (X:=W.setCells w.heap.size 0 (#[.slice gN 1 1,.slice none 0 0,.int .i64 100]:Array Value).toList) rfl rfl (oG 25 (.tmp 0) (.tmp 7) rfl w.heap.size 0 (#[.slice gN 1 1,.slice none 0 0,.int .i64 100]:Array Value).toList (by kernel_rfl) (by kernel_rfl) W (nE mR (X7 _)) (by kernel_rfl) (by kernel_rfl)) ?_;refine⟨true,b1,b2,b3,b4,b5,b6,b7,true,b9,gC,gU,gH,gF,rfl,rfl,λh=>mM ((m1 h).se mR (by decide)) _ _ _ (m1 h),λh=>mM ((m3 h).se mR (by decide)) _ _ _ (m3 h),λh=>mM ((m4 h).se mR (by decide)) _ _ _ (m4 h),λh=>mM ((m6 h).se mR (by decide)) _ _ _ (m6 h),mM (by have:=HGT.out;omega) _ _ _ mT,mM (mN.se mR (by decide)) _ _ _ mN,pC (#[.slice gN 1 1,.slice none 0 0,.int .i64 100]:Array Value).toList 0 _ _ mR,mM (mX.se mR (by decide)) _ _ _ mX,mQ (g:=w.heap.size) (X7 _) _ _ _ _ mB,XQ,Yb⟩
  ·skip
   injection nz with nz;subst nz;simp[Region.binds]at nt mO;subst nt;obtain⟨rfl,rfl,rfl,rfl,rfl,rfl,rfl,rfl,rfl,-,-⟩:=mO;refine Bw (X:=W.setCells (w.heap.size+1) 0 (#[.slice gC 1 1,.slice gU 1 1,.slice gH 1 1,.slice gF 1 1]:Array Value).toList) rfl rfl (oG 32 (.tmp 1) (.tmp 14) rfl (w.heap.size+1) 0 (#[.slice gC 1 1,.slice gU 1 1,.slice gH 1 1,.slice gF 1 1]:Array Value).toList (by kernel_rfl) (by kernel_rfl) W (nE mX (X7 _)) (by kernel_rfl) (by kernel_rfl)) ?_;refine⟨true,true,true,true,true,true,true,true,true,true,gC,gU,gH,gF,rfl,rfl,λh=>mM ((m1 h).se mX (by decide)) _ _ _ (m1 h),λh=>mM ((m3 h).se mX (by decide)) _ _ _ (m3 h),λh=>mM ((m4 h).se mX (by decide)) _ _ _ (m4 h),λh=>mM ((m6 h).se mX (by decide)) _ _ _ (m6 h),mM (mT.se mX (by decide)) _ _ _ mT,mM (mN.se mX (by decide)) _ _ _ mN,mM (mR.se mX (by decide)) _ _ _ mR,pC (#[.slice gC 1 1,.slice gU 1 1,.slice gH 1 1,.slice gF 1 1]:Array Value).toList 0 _ _ mX,mQ (g:=w.heap.size+1) (Z8 _) _ _ _ _ mB,(λ_=>⟨rfl,rfl,rfl,rfl⟩),(λ_=>rfl)⟩
 ·rintro L a W ⟨b0,b1,b2,b3,b4,b5,b6,b7,b8,b9,gC,gU,gH,gF,rfl,rfl,m1,m3,m4,m6,mT,mN,mR,mX,mB,XQ,Yb⟩ he;obtain rfl:b0=true:=uD he 0;obtain rfl:b1=true:=uD he 1;obtain rfl:b2=true:=uD he 2;obtain rfl:b3=true:=uD he 3;obtain rfl:b4=true:=uD he 4;obtain rfl:b5=true:=uD he 5;obtain rfl:b6=true:=uD he 6;obtain rfl:b7=true:=uD he 7;obtain rfl:b8=true:=uD he 8;obtain rfl:b9=true:=uD he 9;have HM:=X6 (And.intro mN (And.intro mR (And.intro mX mB)));have HTB:Hid (IB gC gU gH gF 100 W):=X6 ⟨m1 rfl,m3 rfl,m4 rfl,m6 rfl⟩;clear he m1 m3 m4 m6 mT mN mR mX mB XQ Yb;simp only[Z4];go_wp2_with fail;refine ZQ (Xj results18 _ _ w.heap.size (w.heap.size+1) _ _ _ _ _ _ _ rfl rfl HM.2.1 HM.2.2.1) rfl ?_;exact⟨⟨gN,gC,gU,gH,gF,rfl,HM.1,HTB.out⟩,HM.2.2.2⟩
end
end Go.Proofs.YtjhingednpjogaaGreat
