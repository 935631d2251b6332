/- Proved: ValidRoom of chapter 24 (a table with a value too few or too many is none) returns true for every input, and its arguments read as before. No condition. -/
import Derived.Test.YtjhingednpjogaaGreatQlw
import Derived.Test.YtjhingednpjogaaGreatQly
import Derived.Test.YtjhingednpjogaaGreatQia
import Derived.Test.YtjhingednpjogaaGreatQz
import Derived.Test.YtjhingednpjogaaGreatQv
import Derived.Test.YtjhingednpjogaaGreatQj24
set_option linter.all false
set_option maxRecDepth 100000
namespace Go.Proofs.YtjhingednpjogaaGreat
open Go.Proofs.Tryz
open Go.ChangeShapes Go.WideShapes Go.ChangeAt Go.RowKit
theorem Qt:LayS:=λl adv A A2 c c2 view w hL hD=>Ka (λl adv us hs A A2 c c2 view root uA uc hA hc w got cA cc hK tf qs hcs BR hub Fg Oy=>LA (λl adv us hs A A2 c c2 view root uA uc hA hc w hK tf qs=>Oq (λC hC f b x a s1 s2 Af cf fl W h1 h2 h3 h4=>Sl C hC f b x a s1 s2 Af cf fl W h1 h2 h3 h4) l adv us hs A A2 c c2 view root uA uc hA hc w hK tf qs) l adv us hs A A2 c c2 view root uA uc hA hc w got cA cc hK tf qs hcs BR hub Fg Oy) l adv A A2 c c2 view w hL hD
theorem u8_natQ{n:Int}(h:(Lit.int .u8 n).wf=true):∃k:Nat,n=k/\k<256:=by have h1:IntKind.u8.min=0:=rfl;have h2:IntKind.u8.max=255:=rfl;simp only[Lit.wf,Z3,ZU]at h;exact⟨n.toNat,by omega,by omega⟩
theorem Bi(os:Os)(started:os.Started)(H:Type)(enc:TypeId×Value->H): ReturnsInHanded {} Tryz.checked os 3 .any (Rows.validRoomSpec.pre6 enc prog f3 Rows.validRoomRow.domain false) (Rows.validRoomSpec.post enc prog f3 false true false false):=by
 refine OA (tb:=4) started (by kernel_rfl) func3 rfl ?_ (by kernel_rfl) underlying4 (by kernel_rfl)
  (ChangeSpec.witness6 (enc:=enc) (C:=Tryz.checked) false ⟨#[],#[.agg #[lH,lH,lx],.int .u8 0,.bool false],[]⟩ 8 (by kernel_rfl) (by kernel_rfl) (by kernel_rfl) (by kernel_rfl)) ?_
 ·intro ds hd
  match ds,hd with
  | [d0,d1,d2],_=>rfl
 ·intro W base args ds ps hval hA lN _;rw[Tryz.params3]at hA hval;obtain⟨v0,v1,v2,d0,d1,d2,p0,p1,p2,rfl,rfl,rfl,h0,h1,h2⟩:=trodAll_three hA;obtain⟨A,c,A2,c2,view,l,adv,rfl,ht⟩:=Na (λx hx=>lN x (by simp[hx])) (okWide_struct underlying25 (hval 0 _ _ rfl rfl)) h0;obtain⟨z0,rfl,rfl,rfl,wx⟩:=open_int underlying5 (hval 1 _ _ rfl rfl) h1;obtain⟨z,rfl,hz⟩:=u8_natQ wx;obtain⟨more,rfl⟩:=okWide_bool underlying4 (hval 2 _ _ rfl rfl);exact FV Qt l adv A A2 c c2 view z more W hz ht.nd ht.ad ht.un ht.i64
theorem validRoom_holds:Rows.ValidRoomSaid:=
 OpenClaim.holds_of_wide 3 f3 rfl rfl rfl rfl rfl rfl rfl ⟨rfl,rfl,rfl,rfl,rfl⟩ rfl rfl rfl rfl rfl (by kernel_rfl) func3 BB
  (YZ (by kernel_rfl)) (by unfold Func.isWrapper;rw[YO (YS (by kernel_rfl))];exact⟨rfl,rfl⟩)
  (λos started H enc _=>Bi os started H enc)
end Go.Proofs.YtjhingednpjogaaGreat
