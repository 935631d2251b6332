/- Lemmas for ValidRoom; laid together by a program. -/
import Derived.Test.YtjhingednpjogaaGreatLo0
set_option linter.all false
set_option maxRecDepth 100000
set_option maxHeartbeats 1000000
open Go.RowKit
namespace Go.Proofs.YtjhingednpjogaaGreat
open Go.Proofs.Tryz
section
section
variable{P:Program}{w:World}{o:Oper}{a:Act}{t e:TypeId}{z:Value}{size bytes base n m:Nat}{v:Value}{xs:List Value}
theorem WA(hE:El P t e z size bytes)(ty:TypeId)(lV:w.ownsRow base e size v n xs)(rF:base<=w.heap.size)(news:List Value){A:Option Addr}{B c:Nat}(hr:Reads w B size A m news)(h1:∀u∈news,u.oneCell'=true) (Bg:n+m<=4294967296) (zP:bytes<=32768): ∃A' c' w',(Builtin.append_ #[t,t] ty #[v,.slice A m c]).run P w= .ok (.slice A' (n+m) c') w'/\ w'.ownsRow base e size (.slice A' (n+m) c') (n+m) (xs++news)/\(∀B w0,B<=base->Below B w0 w->Below B w0 w')/\w.grownBy w' v.ownBlock:=by
 obtain⟨i,hi,hz,hs,hb⟩:=Nr hE.info;have Er:(n+m)*bytes<=140737488355328:=by have:=aB6 Bg zP;omega
 rcases A with _ | ad
 ·have hm:m=0:=by
   rcases aAN m with h | h
   ·exact h
   ·obtain⟨_,e,_⟩:=hr.2 h;cases e
  subst hm;have hx:news=[]:=by have:=hr.1;simpa using this
  subst hx;obtain⟨Av,cv,rfl⟩:=lZ lV;have hcap:=oT lV;refine⟨Av,cv,w,?_,by simpa using lV,λB w0 _ h=>h,⟨rfl,rfl,rfl,X7 _,λk _ _=>rfl⟩⟩;rcases Av with _ | g
  ·simp[Builtin.append_,aBF hE.ht,sizeOf,typeInfo,hi,Builtin.lenOf,hcap,Builtin.firstCells,storeCells]
  ·simp[Builtin.append_,aBF hE.ht,sizeOf,typeInfo,hi,Builtin.lenOf,hcap,Builtin.firstCells,storeCells]
 ·obtain⟨v',w',rC,nZ,hg,_,qM⟩:=run_append_own_at (P:=P) w base t ty e i z size bytes hE.ht hi hz hs hb hE.hzs hE.pos v n xs lV ad m c news hr.1
   (by
    intro j u hu;rcases aAN m with h | h
    ·have:=hr.1;rw[h]at this;simp at this;subst this;simp at hu
    ·obtain⟨Rv,e,_,hc⟩:=hr.2 h;injection e with e;subst e;exact hc j u hu) h1 (by simp only[maxLen];omega) Er rF
  obtain⟨A',c',rfl⟩:=lZ nZ;exact⟨A',c',w',rC,nZ,λB w0 hB h0=>h0.grown hg (by omega) (λk hk=>by have:=(lV.lt k hk.symm.symm).1;omega),hg⟩
theorem Ku{ops:Array Oper}{rest:List Oper}{Q:Exit->Act->World->Prop}(tZ:o.guard=none)(s x:Operand) (ho:o.op= .call {callee:= .builtin .append,args:= #[s,x],argTypes:= #[t,t]}) (hE:El P t e z size bytes) (lV:w.ownsRow base e size v n xs) (rF:base<=w.heap.size) (hs:a.eval s=v) (news:List Value) {A:Option Addr} {B c:Nat} (hx:a.eval x= .slice A m c) (hr:Reads w B size A m news) (h1:∀u∈news,u.oneCell'=true) (Bg:n+m<=4294967296) (zP:bytes<=32768) (h:∀A' c' w',w'.ownsRow base e size (.slice A' (n+m) c') (n+m) (xs++news)->(∀B w0,B<=base->Below B w0 w->Below B w0 w')->w.grownBy w' v.ownBlock->wpList P ops Q rest (a.put o.dst (.slice A' (n+m) c')) w'): wpList P ops Q (o::rest) a w:=
 aB4 tZ λ_ hK=>by obtain⟨A',c',w',rC,h2,h3,h4⟩:=WA (P:=P) hE o.type lV rF news hr (c:=c) h1 Bg zP;unfold Oper.wp execOp;simp only[ho,resolve,invoke,builtin,PZ,Yk,Yd,aBS,Y6,UU,hs,hx,rC];exact hK _ _ (h A' c' w' h2 h3 h4)
theorem I3{ops:Array Oper}{rest:List Oper}{Q:Exit->Act->World->Prop}(tZ:o.guard=none)(s x:Operand) (ho:o.op= .call {callee:= .builtin .append,args:= #[s,x],argTypes:= #[t,t]}) (hE:El P t e z size bytes) (lV:w.ownsRow base e size v 0 []) (rF:base<=w.heap.size) (hs:a.eval s=v) (news:List Value) {A:Option Addr} {B c:Nat} (hx:a.eval x= .slice A m c) (hr:Reads w B size A m news) (h1:∀u∈news,u.oneCell'=true) (Bg:m<=4294967296) (zP:bytes<=32768) (h:∀A' c' w',w'.ownsRow base e size (.slice A' m c') m news->(∀B w0,B<=base->Below B w0 w->Below B w0 w')->w.grownBy w' v.ownBlock->wpList P ops Q rest (a.put o.dst (.slice A' m c')) w'): wpList P ops Q (o::rest) a w:=
 Ku tZ s x ho hE lV rF hs news hx hr h1 (by omega) zP λA' c' w' h1 h2 h3=>by rw[ZX]at h1⊢;exact h A' c' w' (by simpa using h1) h2 h3
theorem Il{ops:Array Oper}{rest:List Oper}{Q:Exit->Act->World->Prop}(tZ:o.guard=none)(s x:Operand) (ho:o.op= .call {callee:= .builtin .append,args:= #[s,x],argTypes:= #[t,t]}) (hE:El P t e z size bytes) (hs:a.eval s= .slice w.heap.size 0 0) (news:List Value) {A:Option Addr} {B c:Nat} (hx:a.eval x= .slice A m c) (hr:Reads w B size A m news) (hB:B<=w.heap.size) (h1:∀u∈news,u.oneCell'=true) (Bg:m<=4294967296) (zP:bytes<=32768) (h:∀A' c' w',w'.ownsRow w.heap.size e size (.slice A' m c') m news->Below w.heap.size w w'->wpList P ops Q rest (a.put o.dst (.slice A' m c')) w'): wpList P ops Q (o::rest) a (w.alloc (.cells #[] e)):=
 I3 tZ s x ho hE (aC2 w #[] 0 (X7 _) (by simp) (by simp)) (by simp) hs news hx (hr.alloc hB (.cells #[] e)) h1 Bg zP λA' c' w' h2 h3 _=>h A' c' w' h2 (h3 _ _ (X7 _) bA)
end
end
section
section
variable{P:Program}
theorem Cg(w:World)(p:Addr)(ty:TypeId)(cs:List Value)(d:TypeDesc)(hc:∀j v,cs[j]? =some v->w.cell? (p.add j)=some v) (hu:P.underlying ty=some d) (hd:d.isRow=true) (hi:(P.info? ty).map (·.size)=some cs.length): (Instr.loadAt ty (.pointer (some p))).run P w= .ok (.agg cs.toArray) w:=by
 have hl:(loadCells p cs.length).run P w= .ok cs.toArray w:=run_loadCells_list (P:=P) w p cs hc;obtain⟨i,hq,hs⟩:∃i,P.info? ty=some i/\i.size=cs.length:=by
  cases hq:P.info? ty with
  | none=>rw[hq]at hi;cases hi
  | some i=>rw[hq]at hi;exact⟨i,rfl,by injection hi⟩
 have ha:(isAgg ty).run P w= .ok true w:=by unfold isAgg;rw[PZ,aBF hu w];cases d<;>first | rfl | (cases hd)
 simp only[Instr.loadAt,Instr.sureAddr,loadVar,sizeOf,typeInfo,PZ,Yk,Yd,ha,Z4];simp[hq,hs,hl]
theorem nK{ops:Array Oper}{rest:List Oper}{op:Oper}{a:Act}{w:World}{Q:Exit->Act->World->Prop}(tZ:op.guard=none)(ty:TypeId)(x:Operand)(ho:op.op= .load ty x) (p:Addr) (hx:a.eval x= .pointer (some p)) (cs:List Value) (d:TypeDesc) (hc:∀j v,cs[j]? =some v->w.cell? (p.add j)=some v) (hu:P.underlying ty=some d) (hd:d.isRow=true) (hi:(P.info? ty).map (·.size)=some cs.length) (h:wpList P ops Q rest (a.put op.dst (.agg cs.toArray)) w):wpList P ops Q (op::rest) a w:=by refine aB4 tZ λK hK=>?_;unfold Oper.wp execOp;simp only[ho,hx,PZ,Cg w p ty cs d hc hu hd hi,Yd,Yk];exact hK _ _ h
theorem lJ{ops:Array Oper}{rest:List Oper}{o:Oper}{a:Act}{w:World}{Q:Exit->Act->World->Prop}(tZ:o.guard=none)(ty:TypeId)(x y:Operand)(ho:o.op= .store ty x y) (g:Nat) (hgw:g=w.heap.size) (cells:Array Value) (hx:a.eval x= .pointer g) (hy:a.eval y= .agg cells) (t:TypeId) (old:Array Value) (hi:(P.info? ty).map (·.size)=some cells.size) (hold:old.size=cells.size) (h1:cells.all (·.oneCell')=true) (h:wpList P ops Q rest (a.put o.dst undef) (w.alloc (.cells cells t))):wpList P ops Q (o::rest) a (w.alloc (.cells old t)):=by subst hgw;refine wpList_store_row tZ ty x y ho _ cells hx hy t old (aCW w _) hi hold h1 ?_;rw[World.setRow_alloc_new];exact h
theorem me.one(s:me){A:Option Addr}{n c:Nat}(h:s.uv= .slice A n c):(lj s).toArray.all (·.oneCell')=true:=by simp[lj,Value.oneCell',h]
theorem Nd.one(x:Nd){A:Option Addr}{n c:Nat}(h:x.s.uv= .slice A n c):(oe x).toArray.all (·.oneCell')=true:=by simp[oe,lj,Value.oneCell',h]
end
end
section
attribute [local go_sem] lp
theorem Bz(s:me)(w:World)(hs:zp s): Calls prog 65 #[.agg (lj s).toArray] w λe w'=>(∃d:Int,e= .returned (.tuple #[(mS s),d]))/\w.alloc (.cells (lj s).toArray 63)=w':=by have h1:IntKind.i64.wrap (s.b3+s.b1)=s.b3+s.b1:=YG _ (by have:=hs.b1;have:=hs.b3;omega);have h2:IntKind.i64.wrap (s.b3+s.b1+s.p3)=s.b3+s.b1+s.p3:=YG _ (by have:=hs.b1;have:=hs.b3;have:=hs.p3;omega);have h3:IntKind.i64.wrap (s.b3+s.b1+s.p3+s.p1)=s.b3+s.b1+s.p3+s.p1:=YG _ (by have:=hs.b1;have:=hs.b3;have:=hs.p3;have:=hs.p1;omega);have y24:(lj s)[24]'(by rw[lL];omega)= .int .i64 s.b0:=rfl;have y25:(lj s)[25]'(by rw[lL];omega)= .int .i64 s.b1:=rfl;have y26:(lj s)[26]'(by rw[lL];omega)= .int .i64 s.b2:=rfl;have y27:(lj s)[27]'(by rw[lL];omega)= .int .i64 s.b3:=rfl;have y28:(lj s)[28]'(by rw[lL];omega)= .int .i64 s.p0:=rfl;have y29:(lj s)[29]'(by rw[lL];omega)= .int .i64 s.p1:=rfl;have y30:(lj s)[30]'(by rw[lL];omega)= .int .i64 s.p2:=rfl;have y31:(lj s)[31]'(by rw[lL];omega)= .int .i64 s.p3:=rfl;have z:=qD s;go_enter func65,ntmps65;go_wp2_with fail;go_ret2;exact⟨⟨_,rfl⟩,rfl⟩
theorem vu(s:me)(w:World)(hs:zp s): Calls prog 82 #[.agg (lj s).toArray] w λe w'=>(∃d:Int,e= .returned (.tuple #[(mS s),d]))/\Below w.heap.size w w':=by have h1:IntKind.i64.wrap (s.b3+s.p3)=s.b3+s.p3:=YG _ (by have:=hs.p3;have:=hs.b3;omega);have h2:IntKind.i64.wrap (s.b3+s.p3+s.b1)=s.b3+s.p3+s.b1:=YG _ (by have:=hs.b1;have:=hs.b3;have:=hs.p3;omega);have h3:IntKind.i64.wrap (s.b3+s.p3+s.b1+s.p1)=s.b3+s.p3+s.b1+s.p1:=YG _ (by have:=hs.b1;have:=hs.b3;have:=hs.p3;have:=hs.p1;omega);have HF:Hid (s.b3+s.p3+s.b1+s.p1=mS s):=X6 (by unfold mS;omega);have y24:(lj s)[24]'(by rw[lL];omega)= .int .i64 s.b0:=rfl;have y25:(lj s)[25]'(by rw[lL];omega)= .int .i64 s.b1:=rfl;have y26:(lj s)[26]'(by rw[lL];omega)= .int .i64 s.b2:=rfl;have y27:(lj s)[27]'(by rw[lL];omega)= .int .i64 s.b3:=rfl;have y28:(lj s)[28]'(by rw[lL];omega)= .int .i64 s.p0:=rfl;have y29:(lj s)[29]'(by rw[lL];omega)= .int .i64 s.p1:=rfl;have y30:(lj s)[30]'(by rw[lL];omega)= .int .i64 s.p2:=rfl;have y31:(lj s)[31]'(by rw[lL];omega)= .int .i64 s.p3:=rfl;have z:=qD s;have HB:Hid (Below w.heap.size w (w.alloc (.cells (lj s).toArray 63))):=X6 bA;go_enter func82,ntmps82;go_wp2_with fail;go_quiet (fail);go_wp2_with fail;go_ret2;exact⟨⟨_,by rw[HF.out];rfl⟩,oV HB.out _⟩
theorem KD(k n:Int)(w:World): Calls prog 166 #[.agg #[.int .u8 k,n]] w λe w'=>e= .returned (.int .i64 (o7 ⟨k,n⟩))/\w.alloc (.cells #[.int .u8 k,n] 58)=w':=by
 by_cases h:k=1
 ·have e1:(k == 1)=true:=ZR.2 h;have HF:Hid (o7 ⟨k,n⟩=n):=X6 (by unfold o7;rw[YP h]);clear h;go_enter func166,ntmps166;go_wp2_with fail;go_ret;exact⟨by rw[HF.out];rfl,rfl⟩
 ·have e1:(k == 1)=false:=ZO.2 h;have HF:Hid (o7 ⟨k,n⟩=0):=X6 (by unfold o7;rw[YO h]);clear h;go_enter func166,ntmps166;go_wp2_with fail;go_ret;exact⟨by rw[HF.out];rfl,rfl⟩
theorem GU(k n:Int)(w:World): Calls prog 128 #[.agg #[.int .u8 k,n]] w λe w'=>e= .returned (.int .i64 (o7 ⟨k,n⟩))/\w.alloc (.cells #[.int .u8 k,n] 58)=w':=by
 by_cases h:k=1
 ·have e1:(k == 1)=true:=ZR.2 h;have HF:Hid (o7 ⟨k,n⟩=n):=X6 (by unfold o7;rw[YP h]);clear h;go_enter func128,ntmps128;go_wp2_with fail;go_ret;exact⟨by rw[HF.out];rfl,rfl⟩
 ·have e1:(k == 1)=false:=ZO.2 h;have HF:Hid (o7 ⟨k,n⟩=0):=X6 (by unfold o7;rw[YO h]);clear h;go_enter func128,ntmps128;go_wp2_with fail;go_ret;exact⟨by rw[HF.out];rfl,rfl⟩
theorem qP(x:Int)(w:World): Calls prog 76 #[.int .i64 x] w λe w'=>e= .returned (.tuple #[(lU x),.bool (mG x)])/\w=w':=by
 cases h1:decide (1099511627776<x)
 ·cases h2:decide (x< -1099511627776)
  ·have HF:Hid (lU x=x/\mG x=false):=X6 (by have:=YS h1;have:=YS h2;exact⟨aaE (by omega) (by omega),by unfold mG;simp;omega⟩);go_enter func76,ntmps76;go_wp2_with fail;go_ret2;exact⟨by rw[HF.1,HF.2];rfl,rfl⟩
  ·have HF:Hid (lU x= -1099511627776/\mG x=true):=X6 (by have:=YZ h2;unfold lU mG;refine⟨?_,?_⟩<;>simp<;>omega);go_enter func76,ntmps76;go_wp2_with fail;go_ret2;exact⟨by rw[HF.1,HF.2];rfl,rfl⟩
 ·have HF:Hid (lU x=1099511627776/\mG x=true):=X6 (by have:=YZ h1;unfold lU mG;refine⟨?_,?_⟩<;>simp<;>omega);go_enter func76,ntmps76;go_wp2_with fail;go_ret2;exact⟨by rw[HF.1,HF.2];rfl,rfl⟩
theorem Om(l:List Int)(k:Nat)(h:k<l.length):GV (l.take (k+1))=max (GV (l.take k)) l[k]:=by unfold GV;rw[aB8,YH h,aB9];rfl
theorem UX(l:List Int)(A:Option Addr)(c:Nat)(w:World)(hn:l.length<=4294967296)(hr:Reads w w.heap.size 1 A l.length (lY l)): Calls prog 154 #[.slice A l.length c] w λe w'=>e= .returned (.slice w.heap.size 1 1)/\w.alloc (.cells #[(GV l)] 2)=w':=by
 go_enter func154,ntmps154;go_wp2_with fail;go_loopw [3,8] (λmv iv wr=>∃(k:Nat) (m:Int),k<=l.length/\mv= .int .i64 m/\iv= .int .i64 k/\m=GV (l.take k)/\w=wr) (λ_ iv _=>l.length-(intOf iv).toNat);case atStart=>exact⟨0,0,by omega,rfl,rfl,rfl,rfl⟩
 case round=>
  obtain⟨k,m,hk,rfl,rfl,hm,rfl⟩:=hrel;have HM:=X6 hm;clear hm;by_cases lN:k<l.length
  ·have C2:IntKind.i64.wrap ((k:Int)+1)=(k:Int)+1:=YG _ ⟨by omega,by omega⟩;have d0:decide ((k:Int)<(l.length:Int))=true:=YC (by omega);have pJ:decide (k<l.length)=true:=YC lN;obtain⟨ad,u,rfl,qu,hx,hc⟩:=hr.at_ lN;have hu:u= .int .i64 l[k]:=(by simpa[lY,lN]using hx.symm);subst hu;have HS:=X6 (Om l k lN);clear hx hr;go_wp2_with fail;go_roundw;case rel=>exact⟨k+1,max m l[k],by omega,by congr 1<;>split<;>omega,by go_num,by rw[HS.out,HM.out],trivial⟩
   case measure=>simp[intOf];omega
  ·have d0:decide ((k:Int)<(l.length:Int))=false:=X9 (by omega);have pJ:decide (k<l.length)=false:=X9 lN;have HL:Hid (m=GV l):=X6 (by rw[HM.out,YY (by omega)]);clear hr;go_wp2_with fail;go_ret;exact⟨rfl,by rw[HL.out]⟩
theorem CP:El prog 23 2 (.int .i64 0) 1 8:=⟨underlying23,by kernel_rfl,rfl,by decide⟩
theorem VJ(l:List Int):∀u∈lY l,u.oneCell'=true:=by intro u hu;unfold lY at hu;rw[Z7]at hu;obtain⟨x,_,rfl⟩:=hu;rfl
theorem sl_some(ad:Addr)(n c:Nat)(w:World):Sem.run prog (binOp BinOp.eql 23 (.slice (some ad) n c) (.slice none 0 0)) w= .ok (.bool false) w:=by kernel_rfl
theorem sl_nil(w:World):Sem.run prog (binOp BinOp.eql 23 (.slice none 0 0) (.slice none 0 0)) w= .ok (.bool true) w:=by kernel_rfl
structure KM(l:List Int)(w w':World)(e:Ending):Prop where
 ex:∃A c,e= .returned (.slice A l.length c)/\w'.ownsRow w.heap.size 2 1 (.slice A l.length c) l.length (lY l)
 b:Below w.heap.size w w'
theorem GH(l:List Int)(ad:Addr)(c:Nat)(w:World)(hn:l.length<=1000000)(hr:Reads w w.heap.size 1 (some ad) l.length (lY l)): Calls prog 165 #[.slice (some ad) l.length c] w λe w'=>KM l w w' e:=by have hns:=λw=>sl_some ad l.length c w;go_enter func165,ntmps165;go_wp2_with (at_builtin;refine Il rfl _ _ rfl CP rfl (lY l) rfl hr (X7 _) (VJ l) (by omega) (by omega) ?_;intro A1 c1 w1 hown1 nY);go_ret;exact⟨⟨_,_,rfl,hown1⟩,nY⟩
end
section
attribute [local go_sem] lp
theorem Vy(a b:Int):∃X,Hid (X=max a b):=⟨_,X6 rfl⟩
theorem Vl(a b:Int)(w:World)(h: -9223372036854775808<=a+b/\a+b<9223372036854775808): Calls prog 178 #[.agg #[a,b]] w λe w'=>e= .returned (.int .i64 (a+b))/\w.alloc (.cells #[a,b] 114)=w':=by have h1:IntKind.i64.wrap (a+b)=a+b:=YG _ ⟨by omega,by omega⟩;go_enter func178,ntmps178;go_wp2_with fail;go_ret;exact⟨rfl,rfl⟩
structure WK(s:me):Prop where
 kind:s.kind=1
 Iw:s.Iw=false
 hk:s.h.k=0\/s.h.k=1
 hn: -1048576<=s.h.n/\s.h.n<=1048576
 xY:s.xY.k=0
 xU:s.xU.k=0
 m0:(s.m0.k=0\/s.m0.k=1)/\-1048576<=s.m0.n/\s.m0.n<=1048576
 m2:(s.m2.k=0\/s.m2.k=1)/\-1048576<=s.m2.n/\s.m2.n<=1048576
 b0:0<=s.b0/\s.b0<=1048576
 b2:0<=s.b2/\s.b2<=1048576
 p0:0<=s.p0/\s.p0<=1048576
 p2:0<=s.p2/\s.p2<=1048576
 b1:s.b1=0
 b3:s.b3=0
 p1:s.p1=0
 p3:s.p3=0
theorem WH(s:me)(w:World)(hs:WK s): Calls prog 53 #[.agg (lj s).toArray] w λe w'=>e= .returned (.int .i64 (Dy s))/\w.alloc (.cells (lj s).toArray 63)=w':=by have h1:IntKind.i64.wrap (s.b0+s.p0)=Dy s:=YG _ (by have:=hs.b0;have:=hs.p0;omega);have y24:(lj s)[24]'(by rw[lL];omega)= .int .i64 s.b0:=rfl;have y28:(lj s)[28]'(by rw[lL];omega)= .int .i64 s.p0:=rfl;have z:=qD s;go_enter func53,ntmps53;go_wp2_with fail;go_ret;exact⟨rfl,rfl⟩
theorem Mk(s:me)(w:World)(hs:WK s): Calls prog 65 #[.agg (lj s).toArray] w λe w'=>e= .returned (.tuple #[lx,.int .i64 (Dy s+IA s)])/\w.alloc (.cells (lj s).toArray 63)=w':=by
 have e1:=hs.b1;have e2:=hs.b3;have e3:=hs.p1;have e4:=hs.p3;have h1:IntKind.i64.wrap (s.b0+s.b2)=s.b0+s.b2:=YG _ (by have:=hs.b0;have:=hs.b2;omega);have h2:IntKind.i64.wrap (s.b0+s.b2+s.p0)=s.b0+s.b2+s.p0:=YG _ (by have:=hs.b0;have:=hs.b2;have:=hs.p0;omega);have h3:IntKind.i64.wrap (s.b0+s.b2+s.p0+s.p2)=Dy s+IA s:=by rw[YG _ (by have:=hs.b0;have:=hs.b2;have:=hs.p0;have:=hs.p2;omega)];unfold Dy IA;omega
 have y24:(lj s)[24]'(by rw[lL];omega)= .int .i64 s.b0:=rfl;have y25:(lj s)[25]'(by rw[lL];omega)= .int .i64 0:=by rw[<-e1];rfl
 have y26:(lj s)[26]'(by rw[lL];omega)= .int .i64 s.b2:=rfl;have y27:(lj s)[27]'(by rw[lL];omega)= .int .i64 0:=by rw[<-e2];rfl
 have y28:(lj s)[28]'(by rw[lL];omega)= .int .i64 s.p0:=rfl;have y29:(lj s)[29]'(by rw[lL];omega)= .int .i64 0:=by rw[<-e3];rfl
 have y30:(lj s)[30]'(by rw[lL];omega)= .int .i64 s.p2:=rfl;have y31:(lj s)[31]'(by rw[lL];omega)= .int .i64 0:=by rw[<-e4];rfl
 have z:=qD s;clear e1 e2 e3 e4;go_enter func65,ntmps65;go_wp2_with fail;go_ret2;exact⟨rfl,rfl⟩
theorem Uu(s:me)(a:Int)(w:World)(hs:WK s): Calls prog 66 #[.agg (lj s).toArray,.int .i64 a] w λe w'=>e= .returned (.int .i64 (GP s a))/\w.alloc (.cells (lj s).toArray 63)=w':=by
 have e1:=hs.xY;have e2:=hs.xU;have e3:=hs.hk;have y6:(lj s)[6]'(by rw[lL];omega)= .int .u8 s.h.k:=rfl;have y7:(lj s)[7]'(by rw[lL];omega)= .int .i64 s.h.n:=rfl;have y12:(lj s)[12]'(by rw[lL];omega)= .int .u8 0:=by rw[<-e2];rfl
 have y14:(lj s)[14]'(by rw[lL];omega)= .int .u8 0:=by rw[<-e1];rfl
 have z:=qD s;clear e1 e2;rcases e3 with e3 | e3
 ·obtain⟨X,HX⟩:=Vy a 0;have e:GP s a=X:=by rw[HX.out];unfold GP;rw[YO (by omega)]
  rw[e];rw[e3]at y6;clear e e3;go_enter func66,ntmps66;go_wp2_with fail;all_goals
   have hx:=HX.out;clear HX;go_ret;exact⟨by first | (rw[hx];rfl) | (rw[show X=0 by omega];rfl) | (rw[show X=a by omega];rfl),rfl⟩
 ·obtain⟨X,HX⟩:=Vy s.h.n 0;have e:GP s a=X:=by rw[HX.out];unfold GP;rw[YP e3]
  rw[e];rw[e3]at y6;clear e e3;go_enter func66,ntmps66;go_wp2_with fail;all_goals
   have hx:=HX.out;clear HX;go_ret;exact⟨by first | (rw[hx];rfl) | (rw[show X=0 by omega];rfl) | (rw[show X=s.h.n by omega];rfl),rfl⟩
end
end Go.Proofs.YtjhingednpjogaaGreat
