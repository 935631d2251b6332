/- Lemmas for ValidRoom; laid together by a program. -/
import Derived.OrdersHeld
import Derived.Deep.RegionHeld
import Derived.Test.YtjhingednpjogaaGreatAu
set_option linter.all false
open Go.RowKit
namespace Go.Proofs.YtjhingednpjogaaGreat
section
def MR(P:Program)(T:World->Prop)(v:Value):Result Next->Prop
 | .ok (.value u) w'=>u=v/\T w'
 | .ok .skip w'=>undef=v/\T w'
 | .ok (.enter f args) w'=>Calls P f args w' λe w''=>e= .returned v/\T w''
 | _=>False
section
variable{P:Program}{ops:Array Oper}{Q:Exit->Act->World->Prop}{md:Region.Mode}
theorem Rw{j:Nat}{oi oj:Oper}{v:Value}(hj:ops[j]? =some oj)(hap:oi.apart ops oj=true)(hsi:∀cs b,oi.op≠ .select cs b)(hsj:∀cs b,oj.op≠ .select cs b) (hQ:∀c a w,Q (.panic c) (a.put oi.dst v) w->Q (.panic c) a w) {K:Act->World->Prop} {a:Act} {w:World} (h:wpOp P ops Q j K (a.put oi.dst v) w): wpOp P ops Q j (λa' w'=>(execOp a'.eval oi=execOp a.eval oi/\Region.wanted oi (yielded ops a'.tmps)=Region.wanted oi (yielded ops a.tmps))/\K (a'.put oi.dst v) w') a w:=by
 obtain⟨h1,h2,h3⟩:=Oper.apart_spec hap;have kp:∀u,execOp (a.put oj.dst u).eval oi=execOp a.eval oi/\Region.wanted oi (yielded ops (a.put oj.dst u).tmps)=Region.wanted oi (yielded ops a.tmps):=λu=>⟨execOp_put oi hsi a oj.dst u h3,wanted_put oi a oj.dst u h3⟩;have cm:∀u w',K ((a.put oi.dst v).put oj.dst u) w'->K ((a.put oj.dst u).put oi.dst v) w':=λu w' hk=>by rw[<-Act.put_comm a v u h2];exact hk
 unfold wpOp at h⊢;rw[hj]at h⊢;simp only[]at h⊢;rw[wanted_put oj a oi.dst v h1]at h;by_cases hw:Region.wanted oj (yielded ops a.tmps)=true
 ·rw[YP hw]at h⊢;rcases h with h | h
  ·refine .inl ?_;unfold Oper.wp at h⊢;rw[execOp_put oj hsj a oi.dst v h1]at h;generalize (execOp a.eval oj).run P w=r at h⊢;rcases r with⟨n,w'⟩ | ⟨x,w'⟩
   ·cases n<;>simp only[Oper.upon]at h⊢
    case value u=>exact⟨kp u,cm u _ h⟩
    case skip=>exact⟨kp _,cm _ _ h⟩
    case defer d=>
     refine⟨⟨?_,?_⟩,?_⟩
     ·exact(execOp_put oi hsi {a with defers:=d::a.defers} oj.dst undef h3)
     ·exact(wanted_put oi {a with defers:=d::a.defers} oj.dst undef h3)
     ·rw[<-Act.put_comm _ v undef h2,<-Act.put_defers];exact h
    case enter f args=>
     refine h.mono λe w'' he=>?_;cases e with
     | returned u=>exact⟨kp u,cm u _ he⟩
     | panicked c=>exact hQ _ _ _ he
     | outgrown=>exact he
    case row row args=>exact Rows.mono h λu w'' he=>⟨kp u,cm u _ he⟩
   ·cases x<;>simp only[Oper.upon]at h⊢
    case panic u=>exact hQ _ _ _ h
  ·refine .inr ⟨?_,h.2⟩;have ha:=h.1;unfold Oper.asks at ha⊢;rw[execOp_put oj hsj a oi.dst v h1]at ha;exact ha
 ·rw[YO hw]at h⊢;exact⟨kp _,cm _ _ h⟩
structure mU(md:Region.Mode)(ops:Array Oper)(L:Array Bool):Prop where
 sz:L.size=ops.size
 cl:∀j oj,ops[j]? =some oj->L.getD j false=true->∀e∈oj.after,Region.binds md e=true->L.getD e.on false=true
theorem mU.start:mU md ops (Array.replicate ops.size false):=⟨by simp,λj oj hj h=>by simp[Array.getElem?_replicate]at h;split at h<;>simp at h⟩
theorem mU.next{L:Array Bool}(h:mU md ops L){j:Nat}(hj:j∈Region.ready md ops L):mU md ops (L.setIfInBounds j true):=by
 obtain⟨_,oj,hoj,mO⟩:=mem_ready.1 hj;refine⟨by simpa using h.sz,λq oq hq hl e he hb=>getD_set_true ?_⟩;by_cases e1:j=q
 ·subst e1;rw[hoj]at hq;injection hq with hq
  subst hq;exact mO e he hb
 ·rw[aDH false e1]at hl;exact h.cl q oq hq hl e he hb
def E3(md:Region.Mode)(ops:Array Oper)(acc:List Nat)(j:Nat):List Nat:=if acc.contains j then((ops[j]?).map λo=>(o.after.toList.filter λe=>Region.binds md e).map λe=>e.on).getD []++acc else acc
def Ad(md:Region.Mode)(ops:Array Oper)(k i:Nat):Bool:=decide (k<ops.size) && ((List.range (k+1)).reverse.foldl (E3 md ops) [k]).contains i
theorem D3{L:Array Bool}(h:mU md ops L):∀(l acc:List Nat),(∀x∈acc,L.getD x false=true)->∀x∈l.foldl (E3 md ops) acc,L.getD x false=true
 | [],acc,ha,x,hx=>ha x hx
 | j::l,acc,ha,x,hx=>by
  refine D3 h l _ (λy hy=>?_) x hx;unfold E3 at hy
  split at hy
  ·rename_i hj;rcases YW.1 hy with hy | hy
   ·cases ho:ops[j]? with
    | none=>rw[ho]at hy;simp at hy
    | some o=>rw[ho]at hy;simp only[aCN,aC6,Z7,ZI]at hy;obtain⟨e,⟨he,hb⟩,rfl⟩:=hy;exact h.cl j o ho (ha j (by simpa using hj)) e (by simpa using he) hb
   ·exact ha y hy
  ·exact ha y hy
theorem mU.VS{L:Array Bool}(h:mU md ops L){k i:Nat}(hw:Ad md ops k i=true)(hi:L.getD i true=false):L.getD k true=false:=by
 unfold Ad at hw;simp only[Z3,ZU]at hw;have hk:k<L.size:=by rw[h.sz];exact hw.1
 cases hv:L.getD k true
 ·rfl
 ·exfalso;have h1:L.getD k false=true:=by simp[hk]at hv⊢;exact hv
  have h2:=D3 h _ [k] (λx hx=>by rw[aA0]at hx;rw[hx];exact h1) i (List.contains_iff_mem.1 hw.2);rcases Z6 i L.size with h3 | h3
  ·simp[h3]at h2 hi;rw[hi]at h2;cases h2
  ·simp[ZC h3]at h2
def wpAnyS(P:Program)(md:Region.Mode)(ops:Array Oper)(Q:Exit->Act->World->Prop)(S:Array Bool->Act->World->Prop):Nat->Array Bool->Act->Prop
 | 0,L,a=>Region.ready md ops L=[]/\∀w,S L a w->Q .normal a w
 | n+1,L,a=>(Region.ready md ops L=[]->∀w,S L a w->Q .normal a w)/\
  ∀i∈Region.ready md ops L,∀w,S L a w->wpOp P ops Q i (λa' w'=>S (L.setIfInBounds i true) a' w'/\wpAnyS P md ops Q S n (L.setIfInBounds i true) a') a w
section
variable{S:Array Bool->Act->World->Prop}
theorem EG:∀(n:Nat) (L:Array Bool) (a:Act) (w:World),S L a w->wpAnyS P md ops Q S n L a->wpAny P md ops Q n L a w
 | 0,L,a,w,hS,h=>⟨h.1,h.2 w hS⟩
 | n+1,L,a,w,hS,h=>⟨λe=>h.1 e w hS,λi hi=>wpOp_mono (λa' w' h'=>EG n _ a' w' h'.1 h'.2) (h.2 i hi w hS)⟩
def rV(P:Program)(md:Region.Mode)(ops:Array Oper)(S:Array Bool->Act->World->Prop)(i:Nat)(o:Oper)(v:Value)(a:Act):Prop:=
 (Region.wanted o (yielded ops a.tmps)=true/\∀L a0 w,mU md ops L->L.getD i true=false->S L a0 w->MR P (S L a0) v ((execOp a.eval o).run P w))\/(Region.wanted o (yielded ops a.tmps)=false/\v=undef)
theorem rV.same{i:Nat}{o:Oper}{v:Value}{a a':Act}(h:rV P md ops S i o v a)(he:execOp a'.eval o=execOp a.eval o) (hw:Region.wanted o (yielded ops a'.tmps)=Region.wanted o (yielded ops a.tmps)):rV P md ops S i o v a':=by unfold rV at*;rw[he,hw];exact h
theorem vh{i:Nat}{o:Oper}{v:Value}{a:Act}{w:World}{K:Act->World->Prop}{T:World->Prop}(hi:ops[i]? =some o)(hw:Region.wanted o (yielded ops a.tmps)=true)(hr:MR P T v ((execOp a.eval o).run P w)) (h:∀w',T w'->K (a.put o.dst v) w'):wpOp P ops Q i K a w:=by
 unfold Go.wpOp;simp only[hi,hw,Z4];refine .inl ?_;unfold Oper.wp;generalize (execOp a.eval o).run P w=r at*;rcases r with⟨n,w'⟩ | ⟨x,w'⟩
 ·cases n<;>simp only[MR]at hr<;>simp only[Oper.upon]
  case value u=>rw[hr.1];exact h _ hr.2
  case skip=>rw[hr.1];exact h _ hr.2
  case enter f args=>exact hr.mono λe w'' he=>by rw[he.1];exact h _ he.2
 ·cases hr
theorem rV.wpOp{i:Nat}{o:Oper}{v:Value}{a:Act}{L:Array Bool}{w:World}{K:Act->World->Prop}(hi:ops[i]? =some o)(hy:rV P md ops S i o v a)(oR:mU md ops L)(nt:L.getD i true=false)(hS:S L a w)(h:∀w',S L a w'->K (a.put o.dst v) w'):wpOp P ops Q i K a w:=by
 rcases hy with⟨hw,hv⟩ | ⟨hw,rfl⟩
 ·exact vh hi hw (hv L a w oR nt hS) h
 ·unfold Go.wpOp;simp only[hi,hw,Y9,BT];exact h w hS
theorem wpAnyS_first{i:Nat}{oi:Oper}{v:Value}(hi:ops[i]? =some oi)(hsel:∀(j:Nat) (o:Oper) cs b,ops[j]? =some o->o.op≠ .select cs b) (hQ:∀c a w,Q (.panic c) (a.put oi.dst v) w->Q (.panic c) a w) (hinv:∀L a w,L.getD i true=false->(S (L.setIfInBounds i true) (a.put oi.dst v) w↔S L a w)):∀(n:Nat) (L:Array Bool) (a:Act), (∀j oj,ops[j]? =some oj->j≠i->L.getD j true=false->(∀e∈oj.after,Region.binds md e=true->e.on≠i)->oi.apart ops oj=true)-> mU md ops L->i∈Region.ready md ops L->rV P md ops S i oi v a->wpAnyS P md ops Q S n (L.setIfInBounds i true) (a.put oi.dst v)->wpAnyS P md ops Q S (n+1) L a:=by
 intro n;induction n with
 | zero=>
  intro L a _ oR hr hy H;refine⟨λe=>by rw[e]at hr;simp at hr,λj hj w hS=>?_⟩;by_cases Cq:j=i
  ·subst Cq;exact hy.wpOp hi oR (mem_ready.1 hr).1 hS λw' lr=>⟨(hinv L a w' (mem_ready.1 hr).1).2 lr,H⟩
  ·have:=ready_mono hj Cq;rw[H.1]at this;simp at this
 | succ n ih=>
  intro L a hfree oR hr hy H;refine⟨λe=>by rw[e]at hr;simp at hr,λj hj w hS=>?_⟩;have RH:=(mem_ready.1 hr).1;by_cases Cq:j=i
  ·subst Cq;exact hy.wpOp hi oR RH hS λw' lr=>⟨(hinv L a w' RH).2 lr,H⟩
  ·obtain⟨hjun,oj,hoj,mO⟩:=mem_ready.1 hj;have hno:∀e∈oj.after,Region.binds md e=true->e.on≠i:=λe he hb heq=>by
    have h1:=mO e he hb;rw[heq]at h1;rcases Z6 i L.size with h2 | h2
    ·simp[h2]at RH h1;rw[RH]at h1;cases h1
    ·simp[ZC h2]at h1
   have hfree':∀q oq,ops[q]? =some oq->q≠i->(L.setIfInBounds j true).getD q true=false->(∀e∈oq.after,Region.binds md e=true->e.on≠i)->oi.apart ops oq=true:=λq oq hq KQ nt hn=>by
    refine hfree q oq hq KQ ?_ hn;by_cases hjq:j=q
    ·subst hjq;exact hjun
    ·rw[aDH true hjq]at nt;exact nt
   have h1:=H.2 j (ready_mono hj Cq) w ((hinv L a w RH).2 hS);have h2:=Rw hoj (hfree j oj hoj Cq hjun hno) (λcs b=>hsel i oi cs b hi) (λcs b=>hsel j oj cs b hoj) hQ h1;refine wpOp_mono (λa' w' h3=>⟨?_,ih (L.setIfInBounds j true) a' hfree' (oR.next hj) (ready_mono hr (Ck Cq)) (hy.same h3.1.1 h3.1.2) ?_⟩) h2
   ·have h4:=h3.2.1;rw[Array.setIfInBounds_comm _ _ (Ck Cq)]at h4;exact(hinv _ a' w' (by rw[aDH true Cq];exact RH)).1 h4
   ·rw[Array.setIfInBounds_comm _ _ Cq];exact h3.2.2
theorem Jo{i:Nat}{oi:Oper}{v:Value}{n:Nat}{L:Array Bool}{a:Act}(hi:ops[i]? =some oi)(hs:Region.noSelect ops=true)(hf:Region.free md ops L i=true)(hr:(Region.ready md ops L).contains i=true) (hQ:∀c a w,Q (.panic c) (a.put oi.dst v) w->Q (.panic c) a w) (hinv:∀L a w,L.getD i true=false->(S (L.setIfInBounds i true) (a.put oi.dst v) w↔S L a w)) (hy:rV P md ops S i oi v a) (h:mU md ops (L.setIfInBounds i true)->wpAnyS P md ops Q S n (L.setIfInBounds i true) (a.put oi.dst v)) (oR:mU md ops L):wpAnyS P md ops Q S (n+1) L a:=
 have hr':i∈Region.ready md ops L:=by simpa using hr
 wpAnyS_first hi (Region.noSelect_spec hs) hQ hinv n L a (Region.free_spec hi hf) oR hr' hy (h (oR.next hr'))
theorem Cd{i:Nat}{n:Nat}{L:Array Bool}{a:Act}(hr:Region.ready md ops L=[i])(h:∀w,S L a w->mU md ops (L.setIfInBounds i true)->wpOp P ops Q i (λa' w'=>S (L.setIfInBounds i true) a' w'/\wpAnyS P md ops Q S n (L.setIfInBounds i true) a') a w)(oR:mU md ops L):wpAnyS P md ops Q S (n+1) L a:=by
 refine⟨λe=>by rw[e]at hr;simp at hr,λj hj w hS=>?_⟩;rw[hr]at hj;obtain rfl:j=i:=by simpa using hj
 exact h w hS (oR.next (by rw[hr];simp))
theorem JF{L:Array Bool}{a:Act}(hr:Region.ready md ops L=[])(h:∀w,S L a w->Q .normal a w):∀n,wpAnyS P md ops Q S n L a
 | 0=>⟨hr,h⟩
 | _+1=>⟨λ_=>h,by rw[hr];simp⟩
theorem Jy{id:Nat}{a:Act}{w:World}(S:Array Bool->Act->World->Prop)(hm:P.follows .mixedOrders=true)(hS:S (Array.replicate ops.size false) a w.drew) (h:mU .any ops (Array.replicate ops.size false)->wpAnyS P .any ops Q S ops.size (Array.replicate ops.size false) a):(Code.region id ops true).wp P Q a w:=
 wp_region_any hm (EG _ _ _ _ hS (h mU.start))
end
def L4(k:Nat)(L:Array Bool):Bool:=L.getD k true
def SK(T:Bool->Bool->Value->World->Prop)(k m q:Nat)(L:Array Bool)(a:Act)(w:World):Prop:=T (L4 k L) (L4 m L) (a.tmps.getD q undef) w
theorem Jc{i k:Nat}{L:Array Bool}(h:(i == k)=false):L4 k (L.setIfInBounds i true)=L4 k L:=aDH true (by simpa using h)
theorem Ug{k:Nat}{L:Array Bool}(h:L.getD k true=false):L4 k (L.setIfInBounds k true)=true:=by
 have lN:k<L.size:=by
  rcases Z6 k L.size with h2 | h2
  ·exact h2
  ·simp[ZC h2]at h
 unfold L4;simp[lN]
theorem Vv{a:Act}{d:Option Tmp}{v:Value}{q:Nat}(h:(d == some q)=false):(a.put d v).tmps.getD q undef=a.tmps.getD q undef:=by
 rcases d with _ | d
 ·rfl
 ·have mI:d≠q:=by simpa using h
  simp[Act.put,Array.getElem?_setIfInBounds_ne mI]
section
variable{T:Bool->Bool->Value->World->Prop}{k m q:Nat}
theorem SK_inv{i:Nat}{d:Option Tmp}{v:Value}(h1:(i == k)=false)(h2:(i == m)=false)(h3:(d == some q)=false)(L:Array Bool)(a:Act)(w:World):SK T k m q (L.setIfInBounds i true) (a.put d v) w↔SK T k m q L a w:=by unfold SK;rw[Jc h1,Jc h2,Vv h3]
theorem lW{i:Nat}{oi:Oper}{v:Value}{n:Nat}{L:Array Bool}{a:Act}(hi:ops[i]? =some oi)(hs:Region.noSelect ops=true)(hf:Region.free md ops L i=true)(hr:(Region.ready md ops L).contains i=true) (hQ:∀c a w,Q (.panic c) (a.put oi.dst v) w->Q (.panic c) a w) (hk:((i == k) || (i == m) || (oi.dst == some q))=false) (hy:rV P md ops (SK T k m q) i oi v a) (h:mU md ops (L.setIfInBounds i true)->wpAnyS P md ops Q (SK T k m q) n (L.setIfInBounds i true) (a.put oi.dst v)) (oR:mU md ops L):wpAnyS P md ops Q (SK T k m q) (n+1) L a:=by simp only[aBR]at hk;exact Jo hi hs hf hr hQ (λL a w _=>SK_inv hk.1.1 hk.1.2 hk.2 L a w) hy h oR
theorem mE{i:Nat}{oi:Oper}{n:Nat}{L:Array Bool}{a:Act}{d:Bool}{u:Value}(X:World->World)(hi:ops[i]? =some oi)(hr:Region.ready md ops L=[i])(hk:((i == k) && !(i == m) && (oi.dst == none))=true)(hw:Region.wanted oi (yielded ops a.tmps)=true) (hd:L4 m L=d) (hu:a.tmps.getD q undef=u) (hc:∀w,T false d u w->(execOp a.eval oi).run P w= .ok .skip (X w)) (hT:∀w,T false d u w->T true d u (X w)) (h:mU md ops (L.setIfInBounds i true)->wpAnyS P md ops Q (SK T k m q) n (L.setIfInBounds i true) a) (oR:mU md ops L):wpAnyS P md ops Q (SK T k m q) (n+1) L a:=by
 simp only[Z3,ZR,aCA,ZO]at hk;obtain⟨⟨rfl,hm⟩,hdst⟩:=hk;have nt:=(mem_ready.1 (show i∈Region.ready md ops L by rw[hr];simp)).1;refine Cd hr (λw hS Pt=>?_) oR;have lr:T false d u w:=by have:L4 i L=false:=nt;unfold SK at hS;rw[this,hd,hu]at hS;exact hS
 refine vh (T:=λw'=>w'=X w) (v:=undef) hi hw (by rw[hc w lr];exact⟨rfl,rfl⟩) λw' hw'=>?_;subst hw';rw[hdst];refine⟨?_,h Pt⟩;unfold SK;rw[Ug nt,Jc (by simpa using hm),hd];exact hu.symm▸hT _ lr
theorem zN{i:Nat}{oi:Oper}{n:Nat}{L:Array Bool}{a:Act}{b:Bool}(o:Obj)(hi:ops[i]? =some oi)(hr:Region.ready md ops L=[i])(hk:((i == m) && !(i == k) && (oi.dst == some q) && decide (q<a.tmps.size))=true)(hw:Region.wanted oi (yielded ops a.tmps)=true) (hb:L4 k L=b) (hc:∀w,(execOp a.eval oi).run P w= .ok (.value (.pointer (some ⟨w.heap.size,0,none⟩))) (w.alloc o)) (hT:∀u w,T b false u w->T b true (.pointer (some ⟨w.heap.size,0,none⟩)) (w.alloc o)) (h:∀g,mU md ops (L.setIfInBounds i true)->wpAnyS P md ops Q (SK T k m q) n (L.setIfInBounds i true) (a.put oi.dst (.pointer (some ⟨g,0,none⟩)))) (oR:mU md ops L):wpAnyS P md ops Q (SK T k m q) (n+1) L a:=by
 simp only[Z3,ZR,aCA,ZO,ZU]at hk;obtain⟨⟨⟨rfl,xD⟩,hd⟩,hq⟩:=hk;have nt:=(mem_ready.1 (show i∈Region.ready md ops L by rw[hr];simp)).1;refine Cd hr (λw hS Pt=>?_) oR;have lr:T b false (a.tmps.getD q undef) w:=by have:L4 i L=false:=nt;unfold SK at hS;rw[this,hb]at hS;exact hS
 refine vh (T:=λw'=>w'=w.alloc o) (v:= .pointer w.heap.size) hi hw (by rw[hc w];exact⟨rfl,rfl⟩) λw' hw'=>?_;subst hw';refine⟨?_,h _ Pt⟩;unfold SK;rw[Ug nt,Jc (by simpa using xD),hd,hb];have:(a.put (some q) (.pointer w.heap.size)).tmps.getD q undef= .pointer w.heap.size:=by simp[Act.put,hq]
 rw[this];exact hT _ _ lr
theorem aau{L:Array Bool}{a:Act}{b d:Bool}{u:Value}(hr:Region.ready md ops L=[])(hk:L4 k L=b)(hm:L4 m L=d)(hu:a.tmps.getD q undef=u)(h:∀w,T b d u w->Q .normal a w)(n:Nat)(_:mU md ops L):wpAnyS P md ops Q (SK T k m q) n L a:=
 JF hr (λw hS=>h w (by unfold SK at hS;rw[hk,hm,hu]at hS;exact hS)) n
theorem F6{L:Array Bool}{a:Act}{u:Value}{n:Nat}(h:∀w,T true true u w->Q .normal a w)(hr:Region.ready md ops L=[]:=by kernel_rfl)(hk:L4 k L=true:=by kernel_rfl)(hm:L4 m L=true:=by kernel_rfl)(hu:a.tmps.getD q undef=u:=by rfl)(hc:mU md ops L):wpAnyS P md ops Q (SK T k m q) n L a:=aau hr hk hm hu h n hc
theorem nR{S:World->Prop}{L:Array Bool}{a:Act}{w:World}{n:Nat}(h:Q .normal a w)(hr:Region.ready md ops L=[]:=by kernel_rfl):wpAnyH P md ops Q S n L a w:=wpAnyH_done hr h n
theorem mw{id:Nat}{a:Act}{w:World}(T:Bool->Bool->Value->World->Prop)(k m q:Nat)(b d:Bool)(hm:P.follows .mixedOrders=true)(hkb:L4 k (Array.replicate ops.size false)=b)(hmd:L4 m (Array.replicate ops.size false)=d)(hS:T b d (a.tmps.getD q undef) w.drew) (h:mU .any ops (Array.replicate ops.size false)->wpAnyS P .any ops Q (SK T k m q) ops.size (Array.replicate ops.size false) a):(Code.region id ops true).wp P Q a w:=
 Jy _ hm (by unfold SK;rw[hkb,hmd];exact hS) h
theorem D0{i:Nat}{o:Oper}{v:Value}{a:Act}(hw:Region.wanted o (yielded ops a.tmps)=true)(h:∀b d u w,T b d u w->(execOp a.eval o).run P w= .ok (.value v) w):rV P md ops (SK T k m q) i o v a:=
 .inl ⟨hw,λL a0 w _ _ hS=>by rw[h _ _ _ w hS];exact⟨rfl,hS⟩⟩
theorem LS{i:Nat}{o:Oper}{v:Value}{a:Act}(hw:Region.wanted o (yielded ops a.tmps)=true)(hk:Ad md ops k i=true)(h:∀d u w,T false d u w->(execOp a.eval o).run P w= .ok (.value v) w):rV P md ops (SK T k m q) i o v a:=
 .inl ⟨hw,λL a0 w hc nt hS=>by have e:L4 k L=false:=hc.VS hk nt;have lr:=hS;unfold SK at lr;rw[e]at lr;rw[h _ _ w lr];exact⟨rfl,hS⟩⟩
theorem nX{i:Nat}{o:Oper}{v:Value}{a:Act}(h:YieldsIf P ops (λw=>∃b d u,T b d u w) o v a):rV P md ops (SK T k m q) i o v a:=by
 rcases h with⟨hw,h⟩ | ⟨hw,h⟩
 ·exact D0 hw λb d u w hS=>h w ⟨b,d,u,hS⟩
 ·exact .inr ⟨hw,h⟩
theorem DL{i:Nat}{o:Oper}{a:Act}(hw:Region.wanted o (yielded ops a.tmps)=false):rV P md ops (SK T k m q) i o undef a:= .inr ⟨hw,rfl⟩
theorem yU{i:Nat}{o:Oper}{v:Value}{a:Act}(hw:Region.wanted o (yielded ops a.tmps)=true)(F:FuncId)(args:Array Value)(hc:∀w,(execOp a.eval o).run P w= .ok (.enter F args) w) (h:∀b d u w,T b d u w->Calls P F args w λe w'=>e= .returned v/\T b d u w'):rV P md ops (SK T k m q) i o v a:=
 .inl ⟨hw,λL a0 w _ _ hS=>by rw[hc w];exact h _ _ _ w hS⟩
theorem nO{i:Nat}{o:Oper}{v:Value}{a:Act}(hw:Region.wanted o (yielded ops a.tmps)=true)(hk:Ad md ops k i=true)(F:FuncId)(args:Array Value)(hc:∀w,(execOp a.eval o).run P w= .ok (.enter F args) w) (h:∀d u w,T false d u w->Calls P F args w λe w'=>e= .returned v/\T false d u w'):rV P md ops (SK T k m q) i o v a:=
 .inl ⟨hw,λL a0 w oR nt hS=>by have e:L4 k L=false:=oR.VS hk nt;unfold SK at hS⊢;rw[e]at hS⊢;rw[hc w];exact h _ _ w hS⟩
end
end
end
section
section
variable{P:Program}{ops:Array Oper}{Q:Exit->Act->World->Prop}{md:Region.Mode}{S:World->Prop}
end
end
section
def uR(n k:Nat):Array Bool:=((List.range n).map λi=>decide (i<k)).toArray
theorem GY(n k:Nat):(uR n k).setIfInBounds k true=uR n (k+1):=by
 unfold uR;apply aBB;intro j;rw[aAM];simp only[Z1,Ts,aC4,YR,aAT];by_cases hj:j<n
 ·rw[List.getElem?_range hj];by_cases e:k=j
  ·subst e;simp[hj]
  ·rw[YO e];simp only[aCN,Option.some.injEq,decide_eq_decide];omega
 ·rw[ZG (by rw[aC4];omega)];by_cases e:k=j
  ·subst e;simp[hj]
  ·simp[e]
section
variable{P:Program}{ops:Array Oper}{Q:Exit->Act->World->Prop}{md:Region.Mode}{T:Bool->Bool->Value->World->Prop}{k m q:Nat}
theorem aav{j n:Nat}{L:Array Bool}{a:Act}(hL:uR ops.size j=L)(h:mU md ops (uR ops.size j)->wpAnyS P md ops Q (SK T k m q) n (uR ops.size j) a)(oR:mU md ops L):wpAnyS P md ops Q (SK T k m q) n L a:=by subst hL;exact h oR
theorem aar{j:Nat}{oi:Oper}{v:Value}{n:Nat}{a:Act}(hi:ops[j]? =some oi)(hs:Region.noSelect ops=true)(hf:Region.free md ops (uR ops.size j) j=true)(hr:(Region.ready md ops (uR ops.size j)).contains j=true) (hQ:∀c a w,Q (.panic c) (a.put oi.dst v) w->Q (.panic c) a w) (hk:((j == k) || (j == m) || (oi.dst == some q))=false) (hy:rV P md ops (SK T k m q) j oi v a) (h:mU md ops (uR ops.size (j+1))->wpAnyS P md ops Q (SK T k m q) n (uR ops.size (j+1)) (a.put oi.dst v)) (oR:mU md ops (uR ops.size j)):wpAnyS P md ops Q (SK T k m q) (n+1) (uR ops.size j) a:=
 lW hi hs hf hr hQ hk hy (by rw[GY];exact h) oR
theorem xN(j:Nat){n:Nat}{L:Array Bool}{a:Act}(h:mU md ops (uR ops.size j)->wpAnyS P md ops Q (SK T k m q) n (uR ops.size j) a)(hL:uR ops.size j=L:=by kernel_rfl)(oR:mU md ops L):wpAnyS P md ops Q (SK T k m q) n L a:=aav hL h oR
theorem Ay{j:Nat}{oi:Oper}{v:Value}{n:Nat}{a:Act}(y:∀d u w,T false d u w->(execOp a.eval oi).run P w= .ok (.value v) w)(h:mU md ops (uR ops.size (j+1))->wpAnyS P md ops Q (SK T k m q) n (uR ops.size (j+1)) (a.put oi.dst v)) (hi:ops[j]? =some oi:=by rfl) (hs:Region.noSelect ops=true:=by kernel_rfl) (hf:Region.free md ops (uR ops.size j) j=true:=by kernel_rfl) (hr:(Region.ready md ops (uR ops.size j)).contains j=true:=by kernel_rfl) (hQ:∀c a w,Q (.panic c) (a.put oi.dst v) w->Q (.panic c) a w:=by exact λ_ _ _ h=>h) (hk:((j == k) || (j == m) || (oi.dst == some q))=false:=by rfl) (hw:Region.wanted oi (yielded ops a.tmps)=true:=by rfl) (hwa:Ad md ops k j=true:=by kernel_rfl) (oR:mU md ops (uR ops.size j)):wpAnyS P md ops Q (SK T k m q) (n+1) (uR ops.size j) a:=
 aar hi hs hf hr hQ hk (LS hw hwa y) h oR
theorem nxP{j:Nat}{oi:Oper}{v:Value}{n:Nat}{a:Act}(y:∀b d u w,T b d u w->(execOp a.eval oi).run P w= .ok (.value v) w)(h:mU md ops (uR ops.size (j+1))->wpAnyS P md ops Q (SK T k m q) n (uR ops.size (j+1)) (a.put oi.dst v)) (hi:ops[j]? =some oi:=by rfl) (hs:Region.noSelect ops=true:=by kernel_rfl) (hf:Region.free md ops (uR ops.size j) j=true:=by kernel_rfl) (hr:(Region.ready md ops (uR ops.size j)).contains j=true:=by kernel_rfl) (hQ:∀c a w,Q (.panic c) (a.put oi.dst v) w->Q (.panic c) a w:=by exact λ_ _ _ h=>h) (hk:((j == k) || (j == m) || (oi.dst == some q))=false:=by rfl) (hw:Region.wanted oi (yielded ops a.tmps)=true:=by rfl) (oR:mU md ops (uR ops.size j)):wpAnyS P md ops Q (SK T k m q) (n+1) (uR ops.size j) a:=
 aar hi hs hf hr hQ hk (D0 hw y) h oR
end
section
variable{P:Program}{ops:Array Oper}{Q:Exit->Act->World->Prop}{md:Region.Mode}{S:World->Prop}
theorem Oc{j n:Nat}{L:Array Bool}{a:Act}{w:World}(hL:uR ops.size j=L)(h:wpAnyH P md ops Q S n (uR ops.size j) a w):wpAnyH P md ops Q S n L a w:=by subst hL;exact h
theorem aaw{j:Nat}{oi:Oper}{v:Value}{n:Nat}{a:Act}{w:World}(hi:ops[j]? =some oi)(hs:Region.noSelect ops=true)(hf:Region.free md ops (uR ops.size j) j=true)(hr:(Region.ready md ops (uR ops.size j)).contains j=true) (hQ:∀c a w,Q (.panic c) (a.put oi.dst v) w->Q (.panic c) a w) (hy:YieldsIf P ops S oi v a) (hS:S w) (h:wpAnyH P md ops Q S n (uR ops.size (j+1)) (a.put oi.dst v) w):wpAnyH P md ops Q S (n+1) (uR ops.size j) a w:=
 wpAnyH_take hi hs hf hr hQ hy hS (by rw[GY];exact h)
theorem GZ(j:Nat){n:Nat}{L:Array Bool}{a:Act}{w:World}(h:wpAnyH P md ops Q S n (uR ops.size j) a w)(hL:uR ops.size j=L:=by kernel_rfl):wpAnyH P md ops Q S n L a w:=Oc hL h
theorem OE{j:Nat}{oi:Oper}{v:Value}{n:Nat}{a:Act}{w:World}(y:∀W',S W'->(execOp a.eval oi).run P W'= .ok (.value v) W')(hS:S w)(h:wpAnyH P md ops Q S n (uR ops.size (j+1)) (a.put oi.dst v) w) (hi:ops[j]? =some oi:=by rfl) (hs:Region.noSelect ops=true:=by kernel_rfl) (hf:Region.free md ops (uR ops.size j) j=true:=by kernel_rfl) (hr:(Region.ready md ops (uR ops.size j)).contains j=true:=by kernel_rfl) (hQ:∀c a w,Q (.panic c) (a.put oi.dst v) w->Q (.panic c) a w:=by exact λ_ _ _ h=>h) (hw:Region.wanted oi (yielded ops a.tmps)=true:=by rfl):wpAnyH P md ops Q S (n+1) (uR ops.size j) a w:=
 aaw hi hs hf hr hQ (.inl ⟨hw,y⟩) hS h
end
end
section
section
variable{P:Program}{ops:Array Oper}{Q:Exit->Act->World->Prop}{md:Region.Mode}{S:World->Prop}
def wpL(P:Program)(md:Region.Mode)(ops:Array Oper)(Q:Exit->Act->World->Prop)(S:World->Prop)(is:List Nat)(n:Nat)(L:Array Bool)(a:Act)(w:World):Prop:=wpAnyH P md ops Q S n L a w
theorem nk(is:List Nat){n:Nat}{L:Array Bool}{a:Act}{w:World}(h:wpL P md ops Q S is n L a w):wpAnyH P md ops Q S n L a w:=h
theorem np{n:Nat}{L:Array Bool}{a:Act}{w:World}(h:wpAnyH P md ops Q S n L a w):wpL P md ops Q S [] n L a w:=h
theorem tk{i:Nat}{is:List Nat}{oi:Oper}{v:Value}{n:Nat}{L:Array Bool}{a a':Act}{w:World}(hS:S w) (hi:ops[i]? =some oi:=by rfl) (hs:Region.noSelect ops=true:=by kernel_rfl) (hf:Region.free md ops L i=true:=by kernel_rfl) (hr:(Region.ready md ops L).contains i=true:=by kernel_rfl) (hw:Region.wanted oi (yielded ops a.tmps)=true:=by rfl) (y:∀W',S W'->(execOp a.eval oi).run P W'= .ok (.value v) W':=by(intro W' lr;go_simp;rfl)) (hQ:∀c a w,Q (.panic c) (a.put oi.dst v) w->Q (.panic c) a w:=by exact λ_ _ _ h=>h) (ha:a.put oi.dst v=a':=by((try simp only[Act.put,X8,YF,YE,YD,YA,YB]);rfl)) (h:wpL P md ops Q S is n (L.setIfInBounds i true) a' w):wpL P md ops Q S (i::is) (n+1) L a w:=by subst ha;exact wpAnyH_take hi hs hf hr hQ (.inl ⟨hw,y⟩) hS h
theorem tku{i:Nat}{is:List Nat}{oi:Oper}{n:Nat}{L:Array Bool}{a a':Act}{w:World}(hS:S w) (hi:ops[i]? =some oi:=by rfl) (hs:Region.noSelect ops=true:=by kernel_rfl) (hf:Region.free md ops L i=true:=by kernel_rfl) (hr:(Region.ready md ops L).contains i=true:=by kernel_rfl) (hw:Region.wanted oi (yielded ops a.tmps)=false:=by rfl) (hQ:∀c a w,Q (.panic c) (a.put oi.dst undef) w->Q (.panic c) a w:=by exact λ_ _ _ h=>h) (ha:a.put oi.dst undef=a':=by((try simp only[Act.put,X8,YF,YE,YD,YA,YB]);rfl)) (h:wpL P md ops Q S is n (L.setIfInBounds i true) a' w):wpL P md ops Q S (i::is) (n+1) L a w:=by subst ha;exact wpAnyH_take hi hs hf hr hQ (.inr ⟨hw,rfl⟩) hS h
theorem mV(i:Nat){o:Oper}{n:Nat}{L:Array Bool}{a:Act}{w:World}
 (h:∀K':Act->World->Prop,Shut (∀a w,S w->(S w->wpAnyH P md ops Q S n (L.setIfInBounds i true) a w)->K' a w)->if Region.wanted o (yielded ops a.tmps)=true then Oper.wp P o a w K' Q else K' (a.put o.dst undef) w)
 (hr:Region.ready md ops L=[i]:=by kernel_rfl) (ho:ops[i]? =some o:=by rfl):wpAnyH P md ops Q S (n+1) L a w:=wpAnyH_ready hr (by simp) (AllReadyH.cons ho h AllReadyH.nil)
theorem J0(i j:Nat){o u:Oper}{n:Nat}{L:Array Bool}{a:Act}{w:World}
 (h:∀K':Act->World->Prop,Shut (∀a w,S w->(S w->wpAnyH P md ops Q S n (L.setIfInBounds i true) a w)->K' a w)->if Region.wanted o (yielded ops a.tmps)=true then Oper.wp P o a w K' Q else K' (a.put o.dst undef) w)
 (h2:∀K':Act->World->Prop,Shut (∀a w,S w->(S w->wpAnyH P md ops Q S n (L.setIfInBounds j true) a w)->K' a w)->if Region.wanted u (yielded ops a.tmps)=true then Oper.wp P u a w K' Q else K' (a.put u.dst undef) w)
 (hr:Region.ready md ops L=[i,j]:=by kernel_rfl) (ho:ops[i]? =some o:=by rfl) (hu:ops[j]? =some u:=by rfl):wpAnyH P md ops Q S (n+1) L a w:=wpAnyH_ready hr (by simp) (AllReadyH.cons ho h (AllReadyH.cons hu h2 AllReadyH.nil))
theorem ky{K' R:Act->World->Prop}{a a':Act}{w:World}(hK:Shut (∀a w,S w->(S w->R a w)->K' a w))(hs:S w)(h:S w->R a' w) (ha:a=a':=by((try simp only[Act.put,X8,YF,YE,YD,YA,YB]);rfl)):K' a w:=by subst ha;exact hK.out _ _ hs h
end
section
variable{P:Program}{ops:Array Oper}{Q:Exit->Act->World->Prop}{md:Region.Mode}{T:Bool->Bool->Value->World->Prop}{k m q:Nat}
def wpM(P:Program)(md:Region.Mode)(ops:Array Oper)(Q:Exit->Act->World->Prop)(T:Bool->Bool->Value->World->Prop)(k m q:Nat)(is:List Nat)(n:Nat)(L:Array Bool)(a:Act):Prop:=mU md ops L->wpAnyS P md ops Q (SK T k m q) n L a
theorem Ce(is:List Nat){n:Nat}{L:Array Bool}{a:Act}(h:wpM P md ops Q T k m q is n L a):mU md ops L->wpAnyS P md ops Q (SK T k m q) n L a:=h
theorem Ch{n:Nat}{L:Array Bool}{a:Act}(h:mU md ops L->wpAnyS P md ops Q (SK T k m q) n L a):wpM P md ops Q T k m q [] n L a:=h
theorem tmF{i:Nat}{is:List Nat}{oi:Oper}{v:Value}{n:Nat}{L:Array Bool}{a a':Act} (hi:ops[i]? =some oi:=by rfl) (hs:Region.noSelect ops=true:=by kernel_rfl) (hf:Region.free md ops L i=true:=by kernel_rfl) (hr:(Region.ready md ops L).contains i=true:=by kernel_rfl) (hw:Region.wanted oi (yielded ops a.tmps)=true:=by rfl) (hk:((i == k) || (i == m) || (oi.dst == some q))=false:=by rfl) (hwa:Ad md ops k i=true:=by kernel_rfl) (y:∀d u W',T false d u W'->(execOp a.eval oi).run P W'= .ok (.value v) W') (hQ:∀c a w,Q (.panic c) (a.put oi.dst v) w->Q (.panic c) a w:=by exact λ_ _ _ h=>h) (ha:a.put oi.dst v=a':=by((try simp only[Act.put,X8,YF,YE,YD,YA,YB]);rfl)) (h:wpM P md ops Q T k m q is n (L.setIfInBounds i true) a'):wpM P md ops Q T k m q (i::is) (n+1) L a:=by subst ha;exact lW hi hs hf hr hQ hk (LS hw hwa y) h
theorem Pv{i:Nat}{is:List Nat}{oi:Oper}{v:Value}{n:Nat}{L:Array Bool}{a a':Act} (hi:ops[i]? =some oi:=by rfl) (hs:Region.noSelect ops=true:=by kernel_rfl) (hf:Region.free md ops L i=true:=by kernel_rfl) (hr:(Region.ready md ops L).contains i=true:=by kernel_rfl) (hw:Region.wanted oi (yielded ops a.tmps)=true:=by rfl) (hk:((i == k) || (i == m) || (oi.dst == some q))=false:=by rfl) (y:∀b d u W',T b d u W'->(execOp a.eval oi).run P W'= .ok (.value v) W') (hQ:∀c a w,Q (.panic c) (a.put oi.dst v) w->Q (.panic c) a w:=by exact λ_ _ _ h=>h) (ha:a.put oi.dst v=a':=by((try simp only[Act.put,X8,YF,YE,YD,YA,YB]);rfl)) (h:wpM P md ops Q T k m q is n (L.setIfInBounds i true) a'):wpM P md ops Q T k m q (i::is) (n+1) L a:=by subst ha;exact lW hi hs hf hr hQ hk (D0 hw y) h
theorem tmU{i:Nat}{is:List Nat}{oi:Oper}{n:Nat}{L:Array Bool}{a a':Act} (hi:ops[i]? =some oi:=by rfl) (hs:Region.noSelect ops=true:=by kernel_rfl) (hf:Region.free md ops L i=true:=by kernel_rfl) (hr:(Region.ready md ops L).contains i=true:=by kernel_rfl) (hw:Region.wanted oi (yielded ops a.tmps)=false:=by rfl) (hk:((i == k) || (i == m) || (oi.dst == some q))=false:=by rfl) (hQ:∀c a w,Q (.panic c) (a.put oi.dst undef) w->Q (.panic c) a w:=by exact λ_ _ _ h=>h) (ha:a.put oi.dst undef=a':=by((try simp only[Act.put,X8,YF,YE,YD,YA,YB]);rfl)) (h:wpM P md ops Q T k m q is n (L.setIfInBounds i true) a'):wpM P md ops Q T k m q (i::is) (n+1) L a:=by subst ha;exact lW hi hs hf hr hQ hk (DL hw) h
end
end
end Go.Proofs.YtjhingednpjogaaGreat
