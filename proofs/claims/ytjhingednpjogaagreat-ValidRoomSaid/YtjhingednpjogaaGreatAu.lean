/- Lemmas for ValidRoom; laid together by a program. -/
import Derived.WalkKit
import Derived.WalkSpells
import Derived.WalkLawsBesides
import Derived.Lib.Hide
import Derived.Deep.AppendLies
import Derived.Deep.Draws
import Derived.Maps.AppendAt
import Derived.Test.YtjhingednpjogaaGreatRows
import Derived.ProofKit
import Derived.SizedLaws
import Derived.Deep.Slices
import Derived.Test.YtjhingednpjogaaGreatProg
import Derived.Laws.Externs
set_option linter.all false
set_option maxRecDepth 100000
set_option maxHeartbeats 800000
namespace Go.Proofs.YtjhingednpjogaaGreat
theorem bA{w:World}{o:Obj}:RowKit.Below w.heap.size w (w.alloc o):=(RowKit.Below.refl _ _).alloc (Nat.le_refl _) _
open Go.Proofs.Tryz
section
open Go.RowKit
theorem lp(a:Addr)(n:Nat):(a.add n).block=a.block:=by unfold Addr.add;split<;>rfl
theorem mJ(a:Addr)(i j:Nat):(a.add i).add j=a.add (i+j):=by unfold Addr.add;by_cases hi:i=0<;>by_cases hj:j=0<;>simp[hi,hj,Nat.add_assoc]
def Reads(w:World)(B size:Nat)(A:Option Addr)(n:Nat)(xs:List Value):Prop:=
 xs.length=n*size/\(0<n->∃ad,A=some ad/\ad.block<B/\∀j u,xs[j]? =some u->w.cell? (ad.add j)=some u)
section
variable{w w':World}{B B' size n:Nat}{A:Option Addr}{xs:List Value}
theorem Reads.none_:Reads w B size A 0 []:=⟨by simp,λh=>absurd h (by omega)⟩
theorem Reads.at_{k:Nat}(h:Reads w B 1 A n xs)(hk:k<n):∃ad u,A=some ad/\ad.block<B/\xs[k]? =some u/\w.cell? (ad.add k)=some u:=by
 obtain⟨ad,e,hb,hc⟩:=h.2 (by omega);have hl:k<xs.length:=by have:=h.1;omega
 exact⟨ad,xs[k],e,hb,List.getElem?_eq_getElem hl,hc k _ (List.getElem?_eq_getElem hl)⟩
theorem Reads.keep(h:Reads w B size A n xs)(hk:∀p:Addr,p.block<B->w'.cell? p=w.cell? p):Reads w' B size A n xs:=
 ⟨h.1,λhn=>by obtain⟨ad,e,hb,hc⟩:=h.2 hn;exact⟨ad,e,hb,λj u hu=>(hk _ (by rw[lp];exact hb)).trans (hc j u hu)⟩⟩
theorem Reads.more(h:Reads w B size A n xs)(hB:B<=B'):Reads w B' size A n xs:=
 ⟨h.1,λhn=>by obtain⟨ad,e,hb,hc⟩:=h.2 hn;exact⟨ad,e,by omega,hc⟩⟩
theorem Reads.below(h:Reads w B size A n xs)(hb:Below B w w'):Reads w' B size A n xs:=h.keep λ_ hp=>hb.cell hp
theorem Reads.drew(h:Reads w B size A n xs):Reads w.drew B size A n xs:=h
theorem Reads.drewN(h:Reads w B size A n xs)(k:Nat):Reads (w.drewN k) B size A n xs:=h
theorem Reads.alloc(h:Reads w B size A n xs)(hB:B<=w.heap.size)(o:Obj):Reads (w.alloc o) B size A n xs:=h.keep λp hp=>World.cell?_alloc_lt w o p (by omega)
theorem Reads.setCell(h:Reads w B size A n xs){p:Addr}(hB:B<=p.block)(u:Value):Reads (w.setCell p u) B size A n xs:=
 h.keep λq hq=>World.cell?_setCell_other w p q u (λe=>by subst e;omega)
theorem Reads.grown(h:Reads w B size A n xs){row:Option Nat}(hg:w.grownBy w' row)(hB:B<=w.heap.size)(hr:∀g,row=some g->B<=g):Reads w' B size A n xs:=
 h.keep λp hp=>World.cell?_of_block (hg.block p.block (by omega) (λe=>by have:=hr _ e.symm;omega))
theorem Reads.cut(h:Reads w B size A n xs){k cap:Nat}(hk:k<=n)(hc:n<=cap): Reads w B size (if cap=k then A else A.map (·.add (k*size))) (n-k) (xs.drop (k*size)):=by refine⟨by rw[List.length_drop,h.1,Nat.sub_mul],λhn=>?_⟩;obtain⟨ad,rfl,hb,zX⟩:=h.2 (by omega);rw[if_neg (by omega)];refine⟨ad.add (k*size),rfl,by rw[lp];exact hb,λj u hu=>?_⟩;rw[mJ];exact zX _ u (by rw[<-hu,List.getElem?_drop])
theorem Reads.mo{base:Nat}{e:TypeId}{c:Nat}(h:w.ownsRow base e size (.slice A n c) n xs):Reads w w.heap.size size A n xs:=by
 refine⟨h.1,λhn=>?_⟩;obtain⟨g,cap,hv,_,lN⟩:=h.form hn;have hA:A=some ⟨g,0,none⟩:=by injection hv
 subst hA;exact⟨_,rfl,lN,h.cells (g:=g) rfl⟩
end
def lq(w:World)(g:Nat)(t:TypeId)(cs:Array Value):Prop:=w.heap[g]? =some (.cells cs t (0,0))
section
variable{w w':World}{g:Nat}{t:TypeId}{cs:Array Value}
theorem lq.lt(h:lq w g t cs):g<w.heap.size:=by
 rcases Nat.lt_or_ge g w.heap.size with lN | qU
 ·exact lN
 ·unfold lq at h;rw[Array.getElem?_eq_none qU]at h;cases h
theorem lq.cell(h:lq w g t cs)(i:Nat):w.cell? ⟨g,i,none⟩=cs[i]?:=cell_of_row w g i cs t (0,0) h
theorem lq.frozen(h:lq w g t cs)(i:Nat):w.frozen? ⟨g,i,none⟩=false:=by unfold lq at h;simp[World.frozen?,h]
theorem lq.new(w:World)(t:TypeId)(cs:Array Value):lq (w.alloc (.cells cs t)) w.heap.size t cs:=heap_alloc_new w _
theorem lq.at_(w:World)(t:TypeId)(cs:Array Value)(hg:g=w.heap.size):lq (w.alloc (.cells cs t)) g t cs:=by subst hg;exact lq.new _ _ _
theorem lq.get(h:lq w g t cs)(i:Nat){v:Value}(hv:cs[i]? =some v):w.cell? ⟨g,i,none⟩=some v:=(h.cell i).trans hv
theorem lq.c1{a:Value}(h:lq w g t #[a]):w.cell? ⟨g,0,none⟩=some a:=h.cell 0
theorem lq.c2{a b:Value}(h:lq w g t #[a,b]):w.cell? ⟨g,0,none⟩=some a/\w.cell? ⟨g,1,none⟩=some b:=⟨h.cell 0,h.cell 1⟩
theorem lq.c3{a b c:Value}(h:lq w g t #[a,b,c]):w.cell? ⟨g,0,none⟩=some a/\w.cell? ⟨g,1,none⟩=some b/\w.cell? ⟨g,2,none⟩=some c:=⟨h.cell 0,h.cell 1,h.cell 2⟩
theorem lq.c4{a b c d:Value}(h:lq w g t #[a,b,c,d]):w.cell? ⟨g,0,none⟩=some a/\w.cell? ⟨g,1,none⟩=some b/\w.cell? ⟨g,2,none⟩=some c/\w.cell? ⟨g,3,none⟩=some d:=⟨h.cell 0,h.cell 1,h.cell 2,h.cell 3⟩
theorem lq.c5{a b c d e:Value}(h:lq w g t #[a,b,c,d,e]):w.cell? ⟨g,0,none⟩=some a/\w.cell? ⟨g,1,none⟩=some b/\w.cell? ⟨g,2,none⟩=some c/\w.cell? ⟨g,3,none⟩=some d/\w.cell? ⟨g,4,none⟩=some e:=
 ⟨h.cell 0,h.cell 1,h.cell 2,h.cell 3,h.cell 4⟩
theorem lq.drew(h:lq w g t cs):lq w.drew g t cs:=h
theorem lq.drewN(h:lq w g t cs)(n:Nat):lq (w.drewN n) g t cs:=h
theorem lq.alloc(h:lq w g t cs)(o:Obj):lq (w.alloc o) g t cs:=(Below.heap_alloc w o g h.lt).trans h
theorem lq.lA(h:lq w g t cs)(i:Nat)(u:Value):lq (w.setCell ⟨g,i,none⟩ u) g t (cs.setIfInBounds i u):=by unfold lq at h⊢;simp[World.setCell,Array.getElem?_modify,h]
theorem lq.lQ(h:lq w g t cs){p:Addr}(hp:g≠p.block)(u:Value):lq (w.setCell p u) g t cs:=(Below.heap_setCell w p u g hp).trans h
theorem lq.below{B:Nat}(h:lq w g t cs)(hb:Below B w w')(hg:g<B):lq w' g t cs:=(hb.block g hg).trans h
theorem lq.grown{row:Option Nat}(h:lq w g t cs)(hb:w.grownBy w' row)(hg:some g≠row):lq w' g t cs:=(hb.block g h.lt hg).trans h
theorem lq.se{g':Nat}{t':TypeId}{cs':Array Value}(h:lq w g t cs)(h':lq w g' t' cs')(mI:t≠t'):g≠g':=by
 rintro rfl;unfold lq at h h';rw[h]at h';injection h' with h'
 injection h' with _ ht;exact mI ht
theorem lD{base:Nat}{e:TypeId}{size n:Nat}{v:Value}{xs:List Value}(h:w.ownsRow base e size v n xs)(hg:lq w g t cs)(mI:e≠t):v.ownBlock≠some g:=by
 rcases h.2 with⟨rfl,_⟩ | ⟨g',cap,cur,rfl,_,hh,_⟩
 ·simp[Value.ownBlock]
 ·intro he;have:g'=g:=by simpa[Value.ownBlock]using he
  subst this;exact lq.se (t:=e) hh hg mI rfl
end
structure El(P:Program)(t e:TypeId)(z:Value)(size bytes:Nat):Prop where
 ht:P.underlying t=some (.slice e)
 info:(P.info? e).map (λi=>(i.zero,i.size,i.bytes))=some (some z,size,bytes)
 hzs:z.cells.size=size
 pos:0<size
theorem lZ{w:World}{base:Nat}{e:TypeId}{size:Nat}{v:Value}{n:Nat}{xs:List Value}(h:w.ownsRow base e size v n xs):∃A c,v= .slice A n c:=by
 rcases h.2 with⟨rfl,rfl⟩ | ⟨g,cap,cur,rfl,_⟩
 ·exact⟨_,_,rfl⟩
 ·exact⟨_,_,rfl⟩
theorem oT{w:World}{base:Nat}{e:TypeId}{size:Nat}{A:Option Addr}{k c n:Nat}{xs:List Value}(h:w.ownsRow base e size (.slice A k c) n xs):n<=c:=by
 rcases h.2 with⟨h,h'⟩ | ⟨g,cap,cur,h,_,_,h',_⟩
 ·omega
 ·injection h with _ _ h;omega
theorem lG{w w':World}{base:Nat}{e:TypeId}{size:Nat}{v:Value}{n:Nat}{xs:List Value}(h:w.ownsRow base e size v n xs)(hb:Below w.heap.size w w'):w'.ownsRow base e size v n xs:=
 h.kept (row:=none) ⟨hb.os,hb.tape,hb.output,hb.size,λk hk _=>hb.block k hk⟩ (by cases v.ownBlock<;>simp)
theorem pg{w:World}{base:Nat}{e:TypeId}{size:Nat}{v:Value}{n:Nat}{xs:List Value}(h:w.ownsRow base e size v n xs){k:Nat}(hk:k<base):some k≠v.ownBlock:=
 λhe=>by have:=(h.lt k he.symm).1;omega
section
variable{P:Program}{w:World}{o:Oper}{a:Act}{t e:TypeId}{z:Value}{size bytes base n m:Nat}{v:Value}{xs:List Value}
theorem run_app(hE:El P t e z size bytes)(ty:TypeId)(lV:w.ownsRow base e size v n xs)(rF:base<=w.heap.size)(news:List Value)(hl:news.length=m*size)(h1:∀u∈news,u.oneCell'=true) (Bg:n+m<=4294967296) (zP:bytes<=32768): ∃A' c' w',(Builtin.append_ #[t,t] ty #[v,.slice (some ⟨w.heap.size,0,none⟩) m m]).run P (w.alloc (.cells news.toArray e))= .ok (.slice A' (n+m) c') w'/\ w'.ownsRow base e size (.slice A' (n+m) c') (n+m) (xs++news)/\(∀B w0,B<=base->Below B w0 w->Below B w0 w')/\w.grownBy w' v.ownBlock/\ ((Value.slice A' (n+m) c').ownBlock=v.ownBlock\/w.heap.size<=((Value.slice A' (n+m) c').ownBlock).getD w.heap.size):=by
 obtain⟨i,hi,hz,hs,hb⟩:=info_parts hE.info;have Er:(n+m)*bytes<=140737488355328:=by have:=Nat.mul_le_mul Bg zP;omega
 obtain⟨v',w',rC,nZ,hg,_,qM⟩:=run_append_own_at (P:=P) (w.alloc (.cells news.toArray e)) base t ty e i z size bytes hE.ht hi hz hs hb hE.hzs hE.pos v n xs (lV.alloc _) ⟨w.heap.size,0,none⟩ m m news hl
  (by intro j u hu;have h0:((⟨w.heap.size,0,none⟩:Addr).add j)=⟨w.heap.size,j,none⟩:=(by unfold Addr.add;split<;>simp_all);rw[h0,cell_of_row (w.alloc (.cells news.toArray e)) w.heap.size j news.toArray e (0,0) (heap_alloc_new w _)];simpa using hu) h1 (by simp only[maxLen];omega) Er (by simp;omega)
 obtain⟨A',c',rfl⟩:=lZ nZ;have QL:w.grownBy w' v.ownBlock:=⟨hg.os,hg.tape,hg.output,Nat.le_trans (by simp) hg.size,λk hk mI=>(hg.block k (by simp;omega) mI).trans (Below.heap_alloc w _ k hk)⟩;refine⟨A',c',w',rC,nZ,λB w0 hB h0=>h0.grown QL (by omega) (λk hk=>?_),QL,?_⟩
 ·have:=(lV.lt k hk.symm.symm).1;omega
 ·rcases qM with h | h
  ·exact .inl h
  ·right;rw[h];simp
theorem V9{K:Act->World->Prop}{Q:Exit->Act->World->Prop}(s x:Operand) (ho:o.op= .call {callee:= .builtin .append,args:= #[s,x],argTypes:= #[t,t]}) (hE:El P t e z size bytes) (lV:w.ownsRow base e size v n xs) (rF:base<=w.heap.size) (hs:a.eval s=v) (news:List Value) (hx:a.eval x= .slice (some ⟨w.heap.size,0,none⟩) m m) (hl:news.length=m*size) (h1:∀u∈news,u.oneCell'=true) (Bg:n+m<=4294967296) (zP:bytes<=32768) (h:∀A' c' w',w'.ownsRow base e size (.slice A' (n+m) c') (n+m) (xs++news)->(∀B w0,B<=base->Below B w0 w->Below B w0 w')->w.grownBy w' v.ownBlock-> ((Value.slice A' (n+m) c').ownBlock=v.ownBlock\/w.heap.size<=((Value.slice A' (n+m) c').ownBlock).getD w.heap.size)->K (a.put o.dst (.slice A' (n+m) c')) w'): o.wp P a (w.alloc (.cells news.toArray e)) K Q:=by obtain⟨A',c',w',rC,h2,h3,h4,h5⟩:=run_app (P:=P) hE o.type lV rF news hl h1 Bg zP;unfold Oper.wp execOp;simp only[ho,resolve,invoke,builtin,Sem.run_bind,Sem.run_pure,Result.andThen_ok,List.map_toArray,List.map_cons,List.map_nil,hs,hx,rC];exact h A' c' w' h2 h3 h4 h5
theorem lM{ops:Array Oper}{rest:List Oper}{Q:Exit->Act->World->Prop}(tZ:o.guard=none)(s x:Operand) (ho:o.op= .call {callee:= .builtin .append,args:= #[s,x],argTypes:= #[t,t]}) (hE:El P t e z size bytes) (lV:w.ownsRow base e size v n xs) (rF:base<=w.heap.size) (hs:a.eval s=v) (news:List Value) (hx:a.eval x= .slice (some ⟨w.heap.size,0,none⟩) m m) (hl:news.length=m*size) (h1:∀u∈news,u.oneCell'=true) (Bg:n+m<=4294967296) (zP:bytes<=32768) (h:∀A' c' w',w'.ownsRow base e size (.slice A' (n+m) c') (n+m) (xs++news)->(∀B w0,B<=base->Below B w0 w->Below B w0 w')->w.grownBy w' v.ownBlock-> ((Value.slice A' (n+m) c').ownBlock=v.ownBlock\/w.heap.size<=((Value.slice A' (n+m) c').ownBlock).getD w.heap.size)->wpList P ops Q rest (a.put o.dst (.slice A' (n+m) c')) w'): wpList P ops Q (o::rest) a (w.alloc (.cells news.toArray e)):=
 wpList_plain tZ λ_ hK=>V9 s x ho hE lV rF hs news hx hl h1 Bg zP λA' c' w' h2 h3 h4 h5=>hK _ _ (h A' c' w' h2 h3 h4 h5)
theorem AW{ops:Array Oper}{K:Act->World->Prop}{Q:Exit->Act->World->Prop}{E:Prop}(tZ:o.guard=none)(s x:Operand) (ho:o.op= .call {callee:= .builtin .append,args:= #[s,x],argTypes:= #[t,t]}) (hE:El P t e z size bytes) (lV:w.ownsRow base e size v n xs) (rF:base<=w.heap.size) (hs:a.eval s=v) (news:List Value) (hx:a.eval x= .slice (some ⟨w.heap.size,0,none⟩) m m) (hl:news.length=m*size) (h1:∀u∈news,u.oneCell'=true) (Bg:n+m<=4294967296) (zP:bytes<=32768) (h:∀A' c' w',w'.ownsRow base e size (.slice A' (n+m) c') (n+m) (xs++news)->(∀B w0,B<=base->Below B w0 w->Below B w0 w')->w.grownBy w' v.ownBlock-> ((Value.slice A' (n+m) c').ownBlock=v.ownBlock\/w.heap.size<=((Value.slice A' (n+m) c').ownBlock).getD w.heap.size)->K (a.put o.dst (.slice A' (n+m) c')) w'): if Region.wanted o (yielded ops a.tmps)=true then Oper.wp P o a (w.alloc (.cells news.toArray e)) K Q else E:=by
 have hw:Region.wanted o (yielded ops a.tmps)=true:=by simp[Region.wanted,tZ]
 rw[if_pos hw];exact V9 s x ho hE lV rF hs news hx hl h1 Bg zP h
end
def rM(l:List Int):Prop:=∀x∈l,-9223372036854775808<=x/\x<9223372036854775808
theorem rM.at_{l:List Int}(h:rM l){k:Nat}(hk:k<l.length): -9223372036854775808<=l[k]/\l[k]<9223372036854775808:=h _ (List.getElem_mem hk)
theorem yq(l:List Int)(k:Nat)(hk:k<l.length):(l.take (k+1)).sum=(l.take k).sum+l[k]:=by rw[List.take_succ_eq_append_getElem hk,List.sum_append];simp
theorem Un(l:List Int)(h:rM l): -9223372036854775808*(l.length:Int)<=l.sum/\l.sum<=9223372036854775808*(l.length:Int):=by
 induction l with
 | nil=>simp
 | cons a t ih=>have h1:=h a (by simp);have h2:=ih λx hx=>h x (by simp[hx]);simp only[List.sum_cons,List.length_cons];omega
end
section
open Go.ChangeShapes Go.WideShapes Go.ChangeAt Go.RowKit
theorem Tryz.own:ownKnob prog.godebug=none:=by kernel_rfl
theorem Tryz.laidOut:laidOutB prog=true:=by kernel_rfl
section
variable{H:Type}{enc:TypeId×Value->H}
theorem Gd{P:Program}(hl:laidOutB P=true){W W':World}(hb:Below W.heap.size W W'):∀(ts:List TypeId) (vs:List Value) (ds:List (DataW H)) (ps:List MemPlace),(ts.all λt=>P.readableRec t && decide (t<P.types.size))=true-> DataW.TrodAll enc P W 0 (λ_=>true) true ts vs ds ps->(∀x∈ps,x.block<W.heap.size)->DataW.TrodAll enc P W' 0 (λb=>decide (b<W.heap.size)) true ts vs ds ps:=by
 intro ts;induction ts with
 | nil=>intro vs ds ps _ h _;obtain⟨rfl,rfl,rfl⟩:=trodAll_nil h;rfl
 | cons t ts ih=>intro vs ds ps hr h lN;obtain⟨v,vs,d,ds,p,q,rfl,rfl,rfl,h0,h1⟩:=trodAll_cons h;simp only[List.all_cons,Bool.and_eq_true,decide_eq_true_eq]at hr;exact⟨p,q,Below.trod hl hr.1.1 hr.1.2 h0 hb (λx hx=>lN x (List.mem_append_left _ hx)),ih vs ds q hr.2 h1 (λx hx=>lN x (List.mem_append_right _ hx)),rfl⟩
theorem OA{os:Os}(started:os.Started){F:FuncId}{fn:Func}{s:ChangeSpec}{tb:TypeId}(noInit:Tryz.checked.prog.inits.idxOf? F=none)(hfn:prog.funcs[F]? =some fn)(Xp:s.vars=[]) (hspec:∀ds:List (DataW H),ds.length=fn.params.size->s.fn H ds={results:=[.lit (.bool true)],args:=ds}) (hres:fn.resultTypes= #[tb]) (hbool:prog.underlying tb=some .bool) (hread:(fn.params.toList.all λt=>prog.readableRec t && decide (t<prog.types.size))=true) (witness:∃(w:World) (tape:Tape) (i:Input),w.os=os/\(w.forCall tape i).Shaped Tryz.checked.prog/\i.vars=[]/\Input.okWide Tryz.checked.prog (w.forCall tape i) .any w.heap.size F i/\ s.pre6 enc Tryz.checked.prog fn [] false (w.forCall tape i).memory i.args/\({}:Assume).holds Tryz.checked.prog (lone (Frame.enter Tryz.checked.prog F i.args .normal) [] (w.forCall tape i))) (walk:∀(W:World) (base:Nat) (args:Array Value) (ds:List (DataW H)) (ps:List MemPlace),(∀(j:Nat) t v,fn.params[j]? =some t->args[j]? =some v->Value.okWide prog W .any base t v)-> DataW.TrodAll enc prog W 0 (λ_=>true) true fn.params.toList args.toList ds ps->(∀x∈ps,x.block<W.heap.size)->(DataW.weightsEach prog fn.params.toList ds).all (·<=reachBytes)=true-> Calls prog F args W λe W'=>e= .returned (.bool true)/\Below W.heap.size W W'): ReturnsInHanded {} Tryz.checked os F .any (s.pre6 enc prog fn [] false) (s.post enc prog fn false true false false):=by
 refine returnsInHanded_of_change_sized (C:=Tryz.checked) Tryz.own started noInit hfn witness ?_;intro W base args ds gs before hval hW _ tH _;have hW':=hW;obtain⟨p,q,hA,hV,rfl,hnf,_⟩:=hW;rw[Xp]at hV;obtain⟨rfl,rfl⟩:=trodVars_none hV;have lN:∀x∈p,x.block<W.heap.size:=λx hx=>hW'.lt x (by simpa using hx);have hsz':(DataW.weightsEach prog fn.params.toList ds).all (·<=reachBytes)=true:=by
  have e:s.plain.varTypes Tryz.checked.prog=[]:=by simp[ChangeSpec.plain,DataSpec.varTypes,Xp]
  rw[e,List.append_nil,List.append_nil]at tH;exact tH
 have hlen:ds.length=fn.params.size:=by
  have:∀(ts:List TypeId) (vs:List Value) (ds:List (DataW H)) (ps:List MemPlace),DataW.TrodAll enc Tryz.checked.prog W 0 (λ_=>true) true ts vs ds ps->ds.length=ts.length:=by
   intro ts;induction ts with
   | nil=>intro vs ds ps h;obtain⟨_,rfl,_⟩:=trodAll_nil h;rfl
   | cons t ts ih=>intro vs ds ps h;obtain⟨v,vs,d,ds,p,q,rfl,rfl,rfl,_,h1⟩:=trodAll_cons h;simp[ih _ _ _ h1]
  simpa using this _ _ _ _ hA
 refine(walk W base args ds p hval hA lN hsz').mono λe W' ⟨he,hb⟩=>?_;subst he;have mO:=Gd (enc:=enc) Tryz.laidOut hb _ _ _ _ hread hA lN;have Jl:=hspec ds hlen;have hr:(Value.bool true).resultList fn.resultTypes.size=[.bool true]:=by rw[hres];rfl
 refine⟨_,rfl,ds,[],_,[],p,[],hW',?_,?_,?_,hb.frame _,λh=>by cases h⟩
 ·rw[List.append_nil,Jl,hr,hres];exact trodAll_mk1 (shut_bool hbool true)
 ·rw[List.append_nil,Jl];exact mO
 ·rw[List.append_nil,Jl,Xp];rfl
theorem vF{α:Type}{encd:α->List Value}{good:α->Prop}:∀rows:List (List Value),(∀r∈rows,∃x,r=encd x/\good x)->∃l:List α,rows=l.map encd/\∀x∈l,good x
 | [],_=>⟨[],rfl,by simp⟩
 | r::rows,h=>by obtain⟨l,rfl,hl⟩:=vF rows λr hr=>h r (by simp[hr]);obtain⟨x,rfl,hx⟩:=h r (by simp);exact⟨x::l,rfl,by simpa using⟨hx,hl⟩⟩
theorem zw(size:Nat):∀(rows:List (List Value)),(∀r∈rows,r.length=size)->∀k i r,rows[k]? =some r->i<size->rows.flatten[k*size+i]? =r[i]?
 | [],_,k,i,r,hr,_=>by simp at hr
 | a::rows,h,k,i,r,hr,hi=>by
  have ha:=h a (by simp);rw[List.flatten_cons];rcases k with _ | k
  ·simp at hr;subst hr;rw[List.getElem?_append_left (by omega)];simp
  ·rw[List.getElem?_append_right (by rw[ha,Nat.succ_mul];omega),ha,show(k+1)*size+i-size=k*size+i by rw[Nat.succ_mul];omega];exact zw size rows (λr hr=>h r (by simp[hr])) k i r (by simpa using hr) hi
theorem rX(size:Nat):∀(rows:List (List Value)),(∀r∈rows,r.length=size)->rows.flatten.length=rows.length*size
 | [],_=>by simp
 | a::rows,h=>by rw[List.flatten_cons,List.length_append,rX size rows λr hr=>h r (by simp[hr]),h a (by simp),List.length_cons,Nat.succ_mul];omega
theorem Dr{α:Type}{encd:α->List Value}{good:α->Prop}{P:Program}{W:World}{t e:TypeId}{size:Nat}{v:Value}{d:DataW H}{ps:List MemPlace}(ht:P.underlying t=some (.slice e))(hc:P.cellsOf e=size)(KJ:0<size) (hg:∀n cs y,cs.length=size->DataW.trod enc P W 0 (λ_=>true) true n e cs=some y->∃x,cs=encd x/\good x) (lN:∀x∈ps,x.block<W.heap.size) (hv:∃A len c,v= .slice A len c) (h:DataW.Trod enc P W 0 (λ_=>true) true t v d ps): ∃A c,∃l:List α,v= .slice A l.length c/\l.length<=c/\(∀x∈l,good x)/\Reads W W.heap.size size A l.length (l.flatMap encd):=by
 obtain⟨A,len,c,rfl⟩:=hv;obtain⟨fuel,hf⟩:=h;rcases Go.Deep.open_slice ht hf with⟨hcs,_⟩ | ⟨a,len',cap,m,n,D,Pl,hcs,_,hl,_,hm,hx,hel⟩
 ·simp[Value.cells]at hcs;obtain⟨rfl,rfl,rfl⟩:=hcs;exact⟨none,0,[],rfl,by simp,by simp,Reads.none_⟩
 ·simp[Value.cells]at hcs;obtain⟨rfl,rfl,rfl⟩:=hcs;rw[hc]at hel;simp only[if_true]at hm;subst hm;have hel':∀i,∃r:List Value,i<m->r.length=size/\(∃x,r=encd x/\good x)/\∀j u,r[j]? =some u->W.cell? (a.add (i*size+j))=some u:=by
   intro i;by_cases hi:i<m
   ·obtain⟨cs,h1,h2⟩:=hel i hi;obtain⟨_,hlen,zX⟩:=World.cells?_some h1;refine⟨cs,λ_=>⟨hlen,hg _ _ _ hlen h2,λj u hu=>?_⟩⟩;have hj:j<size:=(by rw[<-hlen];exact(List.getElem?_eq_some_iff.1 hu).1);rw[<-mJ,zX j hj];exact hu
   ·exact⟨[],λh=>absurd h hi⟩
  obtain⟨R,hR⟩:=Classical.axiomOfChoice hel';obtain⟨l,Kn,FW⟩:=vF (encd:=encd) (good:=good) ((List.range len).map R) (by intro r hr;obtain⟨i,hi,rfl⟩:=List.mem_map.1 hr;exact(hR i (by have:=List.mem_range.1 hi;omega)).2.1);have hll:l.length=len:=by have:=congrArg List.length Kn;simpa using this.symm
  have Aj:l.flatMap encd=((List.range len).map R).flatten:=by rw[Kn,List.flatMap_def]
  have tH:∀r∈(List.range len).map R,r.length=size:=λr hr=>by obtain⟨i,hi,rfl⟩:=List.mem_map.1 hr;exact(hR i (by have:=List.mem_range.1 hi;omega)).1
  refine⟨some a,m,l,by rw[hll],by omega,FW,?_,λhn=>⟨a,rfl,?_,λj u hu=>?_⟩⟩
  ·rw[Aj,rX size _ tH,hll];simp
  ·have hp:MemPlace.cell a.block (a.off+0)∈ps:=(by have e:ps=MemPlace.row a (m*size)++(List.range m).flatMap Pl:=(by rw[<-hc];exact(Prod.mk.inj hx).2);rw[e];refine List.mem_append_left _ (List.mem_map.2 ⟨0,List.mem_range.2 ?_,rfl⟩);exact Nat.mul_pos (by omega) KJ);exact lN _ hp
  ·have hj:j<len*size:=(by have:=(List.getElem?_eq_some_iff.1 hu).1;rw[Aj,rX size _ tH]at this;simpa using this);have hk:j / size<len:=Nat.div_lt_of_lt_mul (by rw[Nat.mul_comm];exact hj);have hi:j % size<size:=Nat.mod_lt _ KJ;have ej:j / size*size+j % size=j:=Nat.div_add_mod' j size;rw[Aj,<-ej,zw size _ tH (j / size) (j % size) (R (j / size)) (by simp[hk]) hi]at hu;rw[<-ej];exact(hR (j / size) (by omega)).2.2 _ _ hu
theorem lS{P:Program}{W:World}{base:Nat}{sp:Nat->Bool}{held:Bool}{n t e o sz:Nat}{cs:List Value}{y:DataW H×List MemPlace}{fs:Array Field}(ht:P.underlying t=some (.struct fs))(h:DataW.trod enc P W base sp held n t cs=some y) (i:Nat) {f:Field} (hi:fs[i]? =some f) (he:f.type=e) (ho:f.offset=o) (hc:P.cellsOf e=sz):∃m z,DataW.trod enc P W base sp held m e ((cs.drop o).take sz)=some z/\∀p∈z.2,p∈y.2:=by
 obtain⟨xs,m,_,rfl,_,hx,hf⟩:=DataW.trod_struct ht h;have hl:i<xs.length:=by rw[hx];exact(Array.getElem?_eq_some_iff.1 hi).1
 have:=(hf i f hi).trans (List.getElem?_eq_getElem hl);rw[he,ho,hc]at this;exact⟨m,xs[i],this,λp hp=>List.mem_flatMap.2 ⟨xs[i],List.getElem_mem hl,hp⟩⟩
end
end
section
def dg(l:List Bool)(i:Nat):Int:=if l[i]?.getD false then 1 else 0
def val:List Bool->Int
 | []=>0
 | b::t=>(if b then 1 else 0)+2*val t
theorem vP(l:List Bool)(i:Nat):0<=dg l i/\dg l i<=1:=by unfold dg;split<;>omega
theorem Pr{l:List Bool}{i:Nat}(h:i<l.length):dg l i=if l[i]then 1 else 0:=by simp[dg,h]
theorem Vf{l:List Bool}{i:Nat}(h:l.length<=i):dg l i=0:=by simp[dg,h]
theorem tn(l:List Bool):0<=val l:=by
 induction l with
 | nil=>simp[val]
 | cons b t ih=>simp only[val];split<;>omega
theorem sW(l:List Bool)(i:Nat):val (l.drop i)=dg l i+2*val (l.drop (i+1)):=by
 induction l generalizing i with
 | nil=>simp[val,dg]
 | cons b t ih=>
  cases i with
  | zero=>simp[val,dg]
  | succ i=>simpa[dg]using ih i
theorem AY(l:List Bool)(b:Bool):val (l++[b])=val l+(if b then 1 else 0)*2 ^ l.length:=by
 induction l with
 | nil=>simp[val]
 | cons c t ih=>simp only[List.cons_append,val,ih,List.length_cons,Int.pow_succ];split<;>split<;>omega
theorem pH(l:List Bool)(i:Nat):val (l.take (i+1))=val (l.take i)+dg l i*2 ^ i:=by
 by_cases h:i<l.length
 ·rw[List.take_succ_eq_append_getElem h,AY,List.length_take_of_le (by omega),Pr h]
 ·rw[List.take_of_length_le (by omega),List.take_of_length_le (by omega),Vf (by omega)];simp
theorem UB(l:List Bool):val l<2 ^ l.length:=by
 induction l with
 | nil=>simp[val]
 | cons b t ih=>simp only[val,List.length_cons,Int.pow_succ];split<;>omega
theorem uL(l:List Bool)(i:Nat):val l=val (l.take i)+2 ^ i*val (l.drop i):=by
 induction i with
 | zero=>simp[val]
 | succ i ih=>rw[pH,ih,sW l i,Int.pow_succ,Int.mul_add,Int.mul_assoc,Int.mul_comm (dg l i)];omega
theorem uX(i:Nat):(0:Int)<2 ^ i:=Int.pow_pos (by omega)
theorem tK(l:List Bool)(i:Nat):val (l.take i)<2 ^ i:=by
 induction i with
 | zero=>simp[val]
 | succ i ih=>have h:=vP l i;have hp:=uX i;rw[pH,Int.pow_succ];rcases(show dg l i=0\/dg l i=1 by omega)with e | e<;>rw[e]<;>omega
theorem wP(l:List Bool)(i:Nat):0<=val (l.take i):=tn _
theorem sF(l:List Bool)(i:Nat)(h:l.length<=i):val (l.drop i)=0:=by rw[List.drop_of_length_le h];rfl
theorem less_at(a b:List Bool)(i:Nat)(h:val (a.drop (i+1))=val (b.drop (i+1)))(mI:dg a i≠dg b i):(val a<val b↔dg a i<dg b i):=by rw[uL a i,uL b i,sW a i,sW b i,h];have h1:=vP a i;have h2:=vP b i;have t1:=tK a i;have t2:=tK b i;have t3:=wP a i;have t4:=wP b i;generalize val (b.drop (i+1))=z at*;generalize val (a.take i)=p at*;generalize val (b.take i)=q at*;have hp:=uX i;generalize (2:Int) ^ i=m at*;rcases(show dg a i=0/\dg b i=1\/dg a i=1/\dg b i=0 by omega)with⟨e1,e2⟩ | ⟨e1,e2⟩<;>rw[e1,e2]<;>rw[Int.mul_add,Int.mul_add]<;>simp<;>omega
theorem Sg{a b:List Bool}{i:Nat}(h:val (a.drop (i+1))=val (b.drop (i+1)))(he:dg a i=dg b i):val (a.drop i)=val (b.drop i):=by rw[sW a i,sW b i,h,he]
theorem Q9(a b out:List Bool)(more:Int)(h:val (a.take out.length)+val (b.take out.length)=val out+more*2 ^ out.length)(s:Int)(hs:s=dg a out.length+dg b out.length+more)(hm:0<=more/\more<=1): val (a.take (out.length+1))+val (b.take (out.length+1))=val (out++[s % 2 == 1])+s / 2*2 ^ (out.length+1):=by
 rw[pH,pH,AY,Int.pow_succ];have h1:=vP a out.length;have h2:=vP b out.length;have hp:=uX out.length;generalize (2:Int) ^ out.length=m at*;generalize val (a.take out.length)=p at*;generalize val (b.take out.length)=q at*;generalize val out=v at*;rcases(show dg a out.length=0\/dg a out.length=1 by omega)with e1 | e1<;>rcases(show dg b out.length=0\/dg b out.length=1 by omega)with e2 | e2<;>
  rcases(show more=0\/more=1 by omega)with e3 | e3<;>rw[e1,e2,e3]at hs<;>rw[e3]at h<;>subst hs<;>rw[e1,e2]<;>simp<;>omega
theorem UT(a b out:List Bool)(more:Int)(h:val (a.take out.length)+val (b.take out.length)=val out+more*2 ^ out.length)(hm:0<=more/\more<=1)(hl:max a.length b.length<out.length):val a+val b=val out:=by
 have hk:out.length=(out.length-1)+1:=by omega
 have ha:val a<2 ^ (out.length-1):=by have h:=tK a (out.length-1);rwa[List.take_of_length_le (by omega)]at h
 have hb:val b<2 ^ (out.length-1):=by have h:=tK b (out.length-1);rwa[List.take_of_length_le (by omega)]at h
 rw[List.take_of_length_le (by omega),List.take_of_length_le (by omega)]at h;have hv:=tn out;rcases(show more=0\/more=1 by omega)with e | e
 ·rw[e]at h;omega
 ·rw[e,hk,Int.pow_succ]at h;omega
theorem Np(a b out:List Bool)(E7:Int)(h:val (a.take out.length)-val (b.take out.length)=val out-E7*2 ^ out.length)(hm:0<=E7/\E7<=1)(s s' WN:Int)(hs:s=dg a out.length-dg b out.length-E7) (h':s<0/\s'=s+2/\WN=1\/0<=s/\s'=s/\WN=0): val (a.take (out.length+1))-val (b.take (out.length+1))=val (out++[s' == 1])-WN*2 ^ (out.length+1):=by
 rw[pH,pH,AY,Int.pow_succ];have h1:=vP a out.length;have h2:=vP b out.length;generalize (2:Int) ^ out.length=m at*;generalize val (a.take out.length)=p at*;generalize val (b.take out.length)=q at*;generalize val out=v at*;rcases(show dg a out.length=0\/dg a out.length=1 by omega)with e1 | e1<;>rcases(show dg b out.length=0\/dg b out.length=1 by omega)with e2 | e2<;>
  rcases(show E7=0\/E7=1 by omega)with e3 | e3<;>rw[e1,e2,e3]at hs<;>rw[e3]at h<;>rcases h' with⟨g1,rfl,rfl⟩ | ⟨g1,rfl,rfl⟩<;>rw[e1,e2]<;>first | (exfalso;omega) | (subst hs;simp;omega)
theorem QZ(a b out:List Bool)(E7:Int)(h:val (a.take out.length)-val (b.take out.length)=val out-E7*2 ^ out.length)(hm:0<=E7/\E7<=1)(hl:out.length=a.length)(qu:val b<=val a):val a-val b=val out:=by
 rw[List.take_of_length_le (by omega)]at h;have hb:=uL b out.length;have ha:val a<2 ^ out.length:=by rw[hl];exact UB a
 have hd:=tn (b.drop out.length);have ht:=tn (b.take out.length);have ho:=UB out;have ho':=tn out;have hp:=uX out.length;have hz:val (b.drop out.length)=0:=by
  rcases(show val (b.drop out.length)=0\/1<=val (b.drop out.length) by omega)with e | e
  ·exact e
  ·have:=Int.mul_le_mul_of_nonneg_left e (Int.le_of_lt hp);omega
 rw[hz]at hb;rcases(show E7=0\/E7=1 by omega)with e | e
 ·rw[e]at h;omega
 ·rw[e]at h;omega
theorem GR(l:List Bool)(n:Nat)(h:∀j,n<=j->dg l j=0):val (l.take n)=val l:=by
 have hz:val (l.drop n)=0:=by
  have key:∀k,val (l.drop (n+k))=0->val (l.drop n)=0:=by
   intro k;induction k with
   | zero=>exact id
   | succ k ih=>intro hk;exact ih (by rw[sW,h _ (by omega)];rw[Nat.add_assoc,hk];rfl)
  exact key l.length (sF _ _ (by omega))
 rw[uL l n,hz];omega
theorem O4(l:List Bool)(y n:Int)(h:val l+y*2 ^ l.length=n)(hy:0<=y):val (l++[y % 2 == 1])+y / 2*2 ^ (l.length+1)=n:=by
 rw[AY,Int.pow_succ];generalize (2:Int) ^ l.length=m at*;generalize val l=v at*;obtain⟨q,r,hr,rfl⟩:∃q r:Int,(r=0\/r=1)/\y=2*q+r:=⟨y / 2,y % 2,by omega,by omega⟩;have hq:(2*q+r) / 2=q:=by omega
 have hm:q*(m*2)=2*q*m:=by rw[Int.mul_comm m 2,<-Int.mul_assoc,Int.mul_comm q 2]
 rw[Int.add_mul]at h;rcases hr with rfl | rfl
 ·have:((2*q+0) % 2 == 1)=false:=by simp
  rw[this,hq,hm];simp at h⊢;omega
 ·have:((2*q+1) % 2 == 1)=true:=by simp
  rw[this,hq,hm];simp at h⊢;omega
theorem UC(l:List Bool)(y n:Int)(h:val l+y*2 ^ l.length=n)(hy:0<y)(hn:n<=9223372036854775808):l.length<=63:=by
 rcases Nat.lt_or_ge 63 l.length with hl | hl
 ·exfalso;have h1:(2:Int) ^ 64<=2 ^ l.length:=by have:=Nat.pow_le_pow_right (n:=2) (by omega) (show 64<=l.length by omega);have h2:((2 ^ 64:Nat):Int)<=((2 ^ l.length:Nat):Int):=(by exact_mod_cast this);simpa using h2
  have h3:=Int.mul_le_mul_of_nonneg_right (show 1<=y by omega) (Int.le_of_lt (uX l.length));have:=tn l;omega
 ·exact hl
end
section
open Go.RowKit
def lU(x:Int):Int:=if x>1099511627776 then 1099511627776 else if x< -1099511627776 then -1099511627776 else x
def mG(x:Int):Bool:=decide (x>1099511627776) || decide (x< -1099511627776)
theorem zL(x:Int)(w:World): Calls prog 64 #[.int .i64 x] w λe w'=>e= .returned (.tuple #[.int .i64 (lU x),.bool (mG x)])/\w=w':=by
 go_enter func64,ntmps64;go_wp2;all_goals
  go_ret2;refine⟨?_,rfl⟩;simp[lU,mG];try omega
theorem add64(x y c:Int)(hx:0<=x)(hy:0<=y)(hc0:0<=c)(hc:c<=1)(w:World):(callFunc 163 #[.int .u64 x,.int .u64 y,.int .u64 c]).run prog w= .ok (.value (.tuple #[.int .u64 ((x+y+c) % 18446744073709551616),.int .u64 ((x+y+c) / 18446744073709551616)])) w:=by rw[run_callFunc_extern (fn:=f163) (by kernel_rfl) (by kernel_rfl) (by kernel_rfl) (by kernel_rfl) (e:=add64Entry) (by kernel_rfl),run_add64 x y c hx hy hc0 hc];rfl
theorem add64_0(x y:Int)(hx:0<=x)(hy:0<=y)(w:World):(callFunc 163 #[.int .u64 x,.int .u64 y,.int .u64 0]).run prog w= .ok (.value (.tuple #[.int .u64 ((x+y) % 18446744073709551616),.int .u64 ((x+y) / 18446744073709551616)])) w:=by simpa using add64 x y 0 hx hy (Int.le_refl 0) (by decide) w
theorem Df(x:Int):IntKind.u64.wrap x=x % 18446744073709551616:=by simp[IntKind.wrap,IntKind.signed,IntKind.bits]
theorem u64_nn(x:Int):0<=IntKind.u64.wrap x:=by rw[Df];omega
def pM(S:Int):Value:= .int .i64 (S / 18446744073709551616)
def pI(S:Int):Value:= .int .u64 (S % 18446744073709551616)
theorem sum1_lo(S x:Int):(S+IntKind.u64.wrap x) % 18446744073709551616=(S+x) % 18446744073709551616:=by rw[Df];omega
theorem Yx(S x:Int)(hx0: -9223372036854775808<=x)(Am:x<9223372036854775808)(h0: -170141183460469231731687303715884105728<=S+x)(h1:S+x<170141183460469231731687303715884105728): wrap64 (S / 18446744073709551616+wrap64 (x / 9223372036854775808+wrap64 ((S % 18446744073709551616+IntKind.u64.wrap x) / 18446744073709551616)))=(S+x) / 18446744073709551616:=by
 rw[Df];obtain⟨q,r,vU,XM,rfl⟩:∃q r:Int,0<=r/\r<18446744073709551616/\S=18446744073709551616*q+r:=⟨S / 18446744073709551616,S % 18446744073709551616,by omega,by omega,by omega⟩;have e1:(18446744073709551616*q+r) / 18446744073709551616=q:=by omega
 have e2:(18446744073709551616*q+r) % 18446744073709551616=r:=by omega
 rw[e1,e2];obtain⟨c,hc,hc0,XH⟩:∃c,(r+x % 18446744073709551616) / 18446744073709551616=c/\0<=c/\c<=1:=⟨_,rfl,by omega,by omega⟩;rw[hc,IntWalk.wrap64_in c ⟨by omega,by omega⟩,IntWalk.wrap64_in (_+c) ⟨by omega,by omega⟩];rw[IntWalk.wrap64_in _ ⟨by omega,by omega⟩];omega
theorem Vz(S x:Int)(b:Nat)(w:World)(hx0: -9223372036854775808<=x)(Am:x<9223372036854775808)(J3: -170141183460469231731687303715884105728<=S+x)(hS1:S+x<170141183460469231731687303715884105728) (h0:w.cell? ⟨b,0,none⟩=some (pM S)) (h1:w.cell? ⟨b,1,none⟩=some (pI S)) (f0:w.frozen? ⟨b,0,none⟩=false) (f1:w.frozen? ⟨b,1,none⟩=false): Calls prog 162 #[.int .i64 x,.pointer (some ⟨b,0,none⟩)] w λe w'=>e= .returned (.tuple #[])/\(w.setCell ⟨b,1,none⟩ (pI (S+x))).setCell ⟨b,0,none⟩ (pM (S+x))=w':=by
 have e1:=Yx S x hx0 Am J3 hS1;have e0:0<=S % 18446744073709551616:=by omega
 have E1:=Lib.hid e1;clear e1 hx0 Am J3 hS1;unfold pM at h0;unfold pI at h1;go_enter func162,ntmps162;go_wp2_with (first | simp only[add64_0 (S % 18446744073709551616) _ e0 (u64_nn x)]);go_end0;refine⟨rfl,?_⟩;rw[E1.out,sum1_lo];rfl
theorem low64(S:Int)(h: -9223372036854775808<=S/\S<9223372036854775808):wrap64 (S % 18446744073709551616)=S:=by unfold wrap64;omega
theorem is64(S:Int)(h: -9223372036854775808<=S/\S<9223372036854775808):S / 18446744073709551616=wrap64 (S % 18446744073709551616) / 9223372036854775808:=by rw[low64 S h];omega
theorem not64(S:Int)(h:S< -9223372036854775808\/9223372036854775808<=S):¬S / 18446744073709551616=wrap64 (S % 18446744073709551616) / 9223372036854775808:=by unfold wrap64;omega
theorem W9(S:Int)(w:World)(h0: -170141183460469231731687303715884105728<=S)(h1:S<170141183460469231731687303715884105728): Calls prog 164 #[.agg #[pM S,pI S]] w λe w'=>e= .returned (.tuple #[.int .i64 (lU S),.bool (mG S)])/\Below w.heap.size w w':=by
 unfold pM pI;by_cases ha: -9223372036854775808<=S/\S<9223372036854775808
 ·have e1:(S / 18446744073709551616 == wrap64 (S % 18446744073709551616) / 9223372036854775808)=true:=by simpa using is64 S ha
  have e2:=low64 S ha;have E2:=Lib.hid e2;clear h0 h1 e2;go_enter func164,ntmps164;go_wp2_with (go_at_call 64;refine(zL _ _).mono ?_;rintro e w' ⟨rfl,rfl⟩);go_ret2;rw[E2.out];exact⟨rfl,bA⟩
 ·have e1:(S / 18446744073709551616 == wrap64 (S % 18446744073709551616) / 9223372036854775808)=false:=by simpa using not64 S (by omega)
  by_cases hb:S<0
  ·have e2:lU S= -1099511627776/\mG S=true:=(by unfold lU mG;constructor<;>simp<;>omega);have e3:S / 18446744073709551616<0:=(by omega);have E2:=Lib.hid e2;clear e2 h0 h1;go_enter func164,ntmps164;go_wp2_with fail;go_ret2;rw[E2.out.1,E2.out.2];exact⟨rfl,bA⟩
  ·have e2:lU S=1099511627776/\mG S=true:=(by unfold lU mG;constructor<;>simp<;>omega);have e3:0<=S / 18446744073709551616:=(by omega);have E2:=Lib.hid e2;clear e2 h0 h1;go_enter func164,ntmps164;go_wp2_with fail;go_ret2;rw[E2.out.1,E2.out.2];exact⟨rfl,bA⟩
def lY(l:List Int):List Value:=l.map (Value.int .i64)
theorem aaj(l:List Int)(A:Option Addr)(c:Nat)(w:World)(hl:rM l)(hn:l.length<=4611686018427387904)(hr:Reads w w.heap.size 1 A l.length (lY l)): Calls prog 93 #[.slice A l.length c] w λe w'=>e= .returned (.tuple #[.int .i64 (lU l.sum),.bool (mG l.sum)])/\Below w.heap.size w w':=by
 go_enter func93,ntmps93;go_wp2;go_loopw [11] (λi wr=>∃k:Nat,k<=l.length/\i= .int .i64 k/\lq wr w.heap.size 246 #[pM (l.take k).sum,pI (l.take k).sum]/\Below w.heap.size w wr)
  (λi _=>l.length-(intOf i).toNat)
 case atStart=>exact⟨0,by omega,rfl,lq.new _ _ _,bA⟩
 case round=>
  obtain⟨k,hk,rfl,hb,hw⟩:=hrel;by_cases lN:k<l.length
  ·obtain⟨ad,u,rfl,qu,hx,hc⟩:=(hr.below hw).at_ lN;have hu:u= .int .i64 l[k]:=(by simpa[lY,lN]using hx.symm);subst hu;have hs:=yq l k lN;have wC:=hl.at_ lN;have nY:=Un (l.take (k+1)) λx hx=>hl x (List.mem_of_mem_take hx);rw[List.length_take_of_le (by omega),hs]at nY;have HS:=Lib.hid hs;have c0:wr.cell? ⟨w.heap.size,0,none⟩=some (pM (l.take k).sum):=(hb.cell 0).trans rfl;have c1:wr.cell? ⟨w.heap.size,1,none⟩=some (pI (l.take k).sum):=(hb.cell 1).trans rfl;clear hs hx hr;go_wp2_with fail;refine(Vz (l.take k).sum l[k] _ _ wC.1 wC.2 (by omega) (by omega) c0 c1 (hb.frozen 0) (hb.frozen 1)).mono ?_;rintro e w' ⟨rfl,rfl⟩;go_wp2_with fail;go_roundw;case rel=>
    refine⟨k+1,by omega,by go_num,?_,?_⟩
    ·rw[HS.out];exact(hb.lA 1 _).lA 0 _
    ·exact(hw.setCell (p:=⟨w.heap.size,1,none⟩) (Nat.le_refl _) _).setCell (p:=⟨w.heap.size,0,none⟩) (Nat.le_refl _) _
   case measure=>simp[intOf];omega
  ·obtain rfl:k=l.length:=(by omega);have c0:wr.cell? ⟨w.heap.size,0,none⟩=some (pM l.sum):=(hb.cell 0).trans (by simp);have c1:wr.cell? ⟨w.heap.size,1,none⟩=some (pI l.sum):=(hb.cell 1).trans (by simp);have nY:=Un l hl;clear hr;go_wp2_with fail;refine(W9 l.sum _ (by omega) (by omega)).mono ?_;rintro e w' ⟨rfl,mr⟩;go_wp2_with fail;go_ret2;exact⟨rfl,hw.trans (mr.mono hw.size)⟩
end
open Go.RowKit
def X6:=@Lib.hid
def X7:=@Nat.le_refl
def X8:=@List.setIfInBounds_toArray
def X9:=@decide_eq_false
def YA:=@List.getElem_cons_zero
def YB:=@List.getElem_cons_succ
def YC:=@decide_eq_true
def YD:=@List.getElem_toArray
def YE:=@List.set_cons_succ
def YF:=@List.set_cons_zero
def YG:=@IntWalk.i64_in
def YH:=@List.getElem?_eq_getElem
def YI:=@List.exists_cons_of_length_eq_add_one
def YJ:=@List.getElem_mem
def YK:=@Nat.lt_of_lt_of_le
def YL:=@Nat.le_trans
def YM:=@List.length_append
def YN:=@List.getElem?_append_left
def YO:=@if_neg
def YP:=@if_pos
def YQ:=@List.getElem?_append_right
def YR:=@List.getElem?_toArray
def YS:=@of_decide_eq_false
def YT:=@List.getElem?_eq_some_iff
def YU:=@List.take_succ_eq_append_getElem
def YV:=@World.ownsRow_nil
def YW:=@List.mem_append
def YX:=@World.cell?_setCell_other
def YY:=@List.take_of_length_le
def YZ:=@of_decide_eq_true
def Y0:=@List.take_succ_cons
def Y5:=@List.drop_succ_cons
def Y6:=@List.map_cons
def Y7:=@List.mem_cons
def Y8:=@World.cell?_of_block
def Y9:=@Bool.false_eq_true
def ZA:=@List.length_cons
def ZB:=@List.take_zero
def ZC:=@Array.getElem?_eq_none
def ZD:=@List.not_mem_nil
def ZE:=@List.drop_zero
def ZF:=@List.sum_cons
def ZG:=@List.getElem?_eq_none
def ZH:=@List.drop_eq_getElem_cons
def ZI:=@List.mem_filter
def ZJ:=@List.map_append
def ZK:=@List.mem_range
def ZL:=@List.take_append_drop
def ZM:=@Int.toNat_natCast
def ZN:=@Below.refl
def ZO:=@beq_eq_false_iff_ne
def ZP:=@ownsRow_setCell_other
def ZQ:=@bodyPost_ret
def ZR:=@beq_iff_eq
def ZS:=@Below.heap_setCell
def ZT:=@ownsRow_setCell_below
def ZU:=@decide_eq_true_eq
def ZV:=@World.cell?_alloc_lt
def ZW:=@List.length_take
def ZX:=@Nat.zero_add
def ZY:=@Int.eq_ofNat_of_zero_le
def ZZ:=@List.take_length
def Z0:=@DataW.trod_int
def Z1:=@List.size_toArray
def Z2:=@results_cell_row
def Z3:=@Bool.and_eq_true
def Z4:=@if_true
def Z5:=@Array.getElem?_eq_getElem
def Z6:=@Nat.lt_or_ge
def Z7:=@List.mem_map
def Z8:=@Nat.le_succ
def Z9:=@List.length_filter_le
def BT:=@if_false
def Yd:=@Result.andThen_ok
def Xn:=@List.sum_append
def Ts:=@List.length_map
def PZ:=@Sem.run_bind
def VN:=@List.filter_cons
def aAG:=@List.flatten_cons
def Yc:=@List.append_assoc
def aAI:=@List.set_append_right
def DA:=@or_false
def Xb:=@List.range_succ
def aAL:=@List.append_nil
def aAM:=@Array.getElem?_setIfInBounds
def aAN:=@Nat.eq_zero_or_pos
def aAO:=@List.length_eq_zero_iff
def S9:=@run_makeSlice
def Ck:=@Ne.symm
def Nr:=@info_parts
def Ra:=@Nat.le_of_lt
def aAT:=@List.getElem?_map
def aAU:=@Int.tmod_eq_emod_of_nonneg
def aAV:=@Int.tdiv_eq_ediv_of_nonneg
def aAW:=@Array.getElem?_eq_some_iff
def aAX:=@List.map_congr_left
def Xz:=@List.length_set
def aAZ:=@Array.toList_inj
def aA0:=@List.mem_singleton
def UU:=@List.map_nil
def aA2:=@toList_madeCells_one
def aA3:=@List.mem_of_mem_take
def aA4:=@List.mem_append_left
def aA5:=@Int.mul_le_mul_of_nonneg_left
def aA6:=@decide_eq_false_iff_not
def aA7:=@World.block_lt_of_cell?
def aA8:=@List.flatten_append
def Yk:=@Sem.run_pure
def aBA:=@size_madeCells
def aBB:=@Array.ext_getElem?
def aBC:=@List.length_singleton
def aBD:=@List.length_nil
def aBE:=@List.getElem_append_left
def aBF:=@run_underlying
def aBG:=@List.getElem_set
def aBH:=@List.getElem?_replicate
def aBI:=@List.eq_nil_of_length_eq_zero
def aBJ:=@Int.pow_succ
def aBK:=@List.pairwise_cons
def aBL:=@List.getElem?_take
def aBM:=@run_loadVar_row
def aBN:=@Nat.le_succ_of_le
def aBO:=@List.nodup_append
def aBP:=@Nat.mul_le_mul_right
def aBQ:=@List.mem_iff_getElem
def aBR:=@Bool.or_eq_false_iff
def aBS:=@List.map_toArray
def aBT:=@List.flatMap_def
def aBU:=@Below.heap_alloc
def aBV:=@List.getElem_append_right
def aBW:=@List.replicate_succ
def aBX:=@Array.getElem_range
def aBY:=@List.eq_of_mem_replicate
def aBZ:=@List.nil_append
def aB0:=@List.foldl_cons
def aB1:=@List.mem_cons_self
def aB2:=@Nat.mul_one
def aB3:=@Int.mul_add
def aB4:=@wpList_plain
def aB5:=@Nat.zero_mul
def aB6:=@Nat.mul_le_mul
def aB7:=@Int.mul_nonneg
def aB8:=@List.take_add_one
def aB9:=@List.foldl_append
def aCA:=@Bool.not_eq_true'
def aCB:=@Array.getElem_map
def aCC:=@List.getElem_replicate
def aCD:=@List.getElem?_dropLast
def aCE:=@List.length_replicate
def aCF:=@cond_false
def aCG:=@List.getElem_map
def aCH:=@List.ext_getElem
def aCI:=@List.cons_append
def aCJ:=@Int.mul_le_mul_of_nonneg_right
def aCK:=@Bool.true_and
def aCL:=@Int.add_mul
def aCM:=@List.mem_cons_of_mem
def aCN:=@Option.map_some
def aCO:=@Int.ediv_nonneg
def aCP:=@List.dropLast_concat_getLast
def aCQ:=@List.length_pos_iff
def aCR:=@results_none
def aCS:=@Int.add_zero
def aCT:=@Array.getD_eq_getD_getElem?
def aCU:=@cond_true
def aCV:=@congrArg
def aCW:=@heap_alloc_new
def aCX:=@List.filter_append
def aCY:=@List.mem_or_eq_of_mem_set
def aCZ:=@List.getLast?_eq_getElem?
def aC0:=@List.exists_mem_of_ne_nil
def aC1:=@Int.le_refl
def aC2:=@World.ownsRow_lit
def aC3:=@Nat.lt_succ_of_lt
def aC4:=@List.length_range
def aC5:=@results_cell_tmp
def aC6:=@Option.getD_some
def aC7:=@Nat.sub_self
def aC8:=@Nat.mul_comm
def aC9:=@Nat.le_of_eq
def aDA:=@Int.le_trans
def aDB:=@Int.le_of_lt
def aDC:=@Nat.dvd_of_mod_eq_zero
def aDD:=@run_eqGuard_agg
def aDE:=@Int.natCast_add
def aDF:=@List.mem_append_right
def aDG:=@Int.ediv_le_of_le_mul
def aDH:=@getD_set_ne
def aDI:=@Bool.false_and
def aDJ:=@Nat.div_lt_of_lt_mul
def aDK:=@wp_region_lit
def aDL:=@Int.mul_assoc
def aDM:=@Bool.not_true
def aDN:=@Nat.add_sub_cancel
def aDO:=@Go.Deep.open_slice
def aDP:=@Array.all_eq_true'
inductive ZrT where|zr
def lx:ZrT:=.zr
inductive NlT where|nl
def lH:NlT:=.nl
instance:Coe ZrT Value:=⟨λ_=>.int .i64 0⟩
instance:Coe NlT Value:=⟨λ_=>.slice none 0 0⟩
instance:Coe Int Value:=⟨Value.int .i64⟩
instance:Coe Bool Value:=⟨Value.bool⟩
instance:Coe Nat Value:=⟨λk=>.int .i64 (k:Int)⟩
instance:Coe Nat (Option Addr):=⟨λg=>some ⟨g,0,none⟩⟩
instance(g o:Nat):CoeDep (Nat×Nat) (g,o) Addr:=⟨⟨g,o,none⟩⟩
end Go.Proofs.YtjhingednpjogaaGreat
