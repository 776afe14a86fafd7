/- Put right, one is at the mean of the grid; behind others one goes on from there by the moves alone. No condition. -/
import Derived.Test.YtpmkboockihdbaaGreatP00
import Derived.Carry
import Derived.Test.YtpmkboockihdbaaGreatXLoopRight
set_option maxHeartbeats 512000000
set_option maxRecDepth 4000
set_option linter.unusedVariables false
set_option linter.unusedSimpArgs false
namespace Go.Proofs.YtpmkboockihdbaaGreat
open Go.ChangeAt Go.ChangeShapes Go.Deep Go.Joins Go.RowKit Go.WideShapes _root_.Go.Proofs.Tryz
set_option maxRecDepth 100000 in
theorem lifted(os:Os)(started:os.Started)(H:Type)(enc:TypeId×Value→H):
  ReturnsInHanded {} Tryz.checked os 8 .any (Rows.loopRightSpec.pre6 enc prog Tryz.f8 Rows.loopRightRow.domain false) (Rows.loopRightSpec.post enc prog Tryz.f8 false true false false):=by
 refine returnsInHanded_of_change (C:=Tryz.checked) own started (by kernel_rfl) func8
  (ChangeSpec.witness6 (enc:=enc) (C:=Tryz.checked) false ⟨#[],#[.int .u8 0,.int .u8 0,.slice none 0 0,.agg #[.int .u32 0,.int .i64 0,.int .i64 0,.int .i64 0,.int .i64 0,.int .i64 0,.int .i64 0,.int .i64 0,.int .i64 0,.int .i64 0,.int .i64 0,.int .i64 0,.int .i64 0,.int .i64 0,.int .i64 0,.int .i64 0,.int .i64 0,.int .i64 0,.int .i64 0,.int .i64 0,.int .i64 0,.int .i64 0,.int .i64 0],.agg #[.int .i64 0,.int .i64 0],.int .u16 0,.slice none 0 0],[]⟩ 8 (by kernel_rfl) (by kernel_rfl) (by kernel_rfl) (by kernel_rfl)) ?_
 intro W base args ds gs before hval0 hW hcnd _;have hval:∀(j:Nat) t v,Tryz.f8.params[j]? = some t→args[j]? = some v→Value.okWide prog W .any base t v:=hval0;have hW':=hW;obtain⟨p,q,hA0,hV,rfl,hfz,hnd⟩:=hW;have hA:DataW.TrodAll enc prog W 0 (fun _=>true) true Tryz.f8.params.toList args.toList ds p:=hA0;rw[Tryz.params8]at hA hval;obtain⟨v0,v1,v2,v3,v4,v5,v6,d0,d1,d2,d3,d4,d5,d6,p0,p1,p2,p3,p4,p5,p6,rfl,rfl,rfl,h0,h1,h2,h3,h4,h5,h6⟩:=bEb hA;clear hA0 hval0;obtain⟨a,rfl,r0⟩:=aPy underlying5 (hval 0 _ _ rfl rfl) h0;obtain⟨b,rfl,r1⟩:=aPy underlying5 (hval 1 _ _ rfl rfl) h1;obtain⟨A2,c2,z,rfl,q2,r2⟩:=bDo underlying22 underlying121 (by kernel_rfl) (hval 2 _ _ rfl rfl) h2;obtain⟨_,rfl,q3⟩:=bC5 underlying52 bDh (hval 3 _ _ rfl rfl) h3;obtain⟨cf,rfl⟩:=bEc _ q3;obtain⟨_,rfl,sx,_,rfl,rx4,sy,_,rfl,ry4,rfl⟩:=bC5 underlying44 bDm (hval 4 _ _ rfl rfl) h4;obtain⟨lo,rfl,r5⟩:=aPy underlying32 (hval 5 _ _ rfl rfl) h5;obtain⟨A6,c6,l,rfl,q6,r6⟩:=bDq (en:=dR) underlying64 bDi rfl bEd (hval 6 _ _ rfl rfl) h6;refine(bDg (bDv a r0 b r1 A2 c2 z q2 r2 cf sx rx4 sy ry4 lo r5 A6 c6 l q6 r6 (w:=W))).mono fun e W' ⟨he,hb⟩=>?_;subst he;exact⟨_,rfl,bDp (tb:=4) bDt underlying4 hW' rfl rfl (fun es h=>by
  have h':es.length=7:=h
  match es,h' with
  | [_,_,_,_,_,_,_],_=>rfl) (of_decide_eq_true (by kernel_rfl)) hb⟩
set_option maxRecDepth 100000 in
theorem bDr:((Rows.loopRightRow.inPlace==Tryz.pinned.checked.prog.inPlace 8)&&(Rows.loopRightRow.unfollowed==Tryz.pinned.checked.prog.unfollowed 8)&&(Rows.loopRightRow.recurses==Tryz.pinned.checked.prog.recurses 8)&&(Rows.loopRightRow.named==Tryz.pinned.checked.prog.varsNamed 8))=true:=by kernel_rfl
set_option maxRecDepth 100000 in
theorem bDs:joinedFacts Tryz.pinned.checked.prog 8 Tryz.f8 Rows.loopRightSpec Rows.loopRightRow=true:=by
 have h:=bDr;simp only[Bool.and_eq_true]at h;obtain⟨⟨⟨a1,a2⟩,a3⟩,a4⟩:=h;unfold joinedFacts;rw[a1,a2,a3,a4];show (_:Bool)=true
 kernel_rfl
theorem holds:Rows.LoopRightSaid :=
 OpenClaim.holds_of_wide 8 Tryz.f8 rfl rfl rfl rfl rfl rfl rfl ⟨rfl,rfl,rfl,rfl,rfl⟩ rfl rfl rfl rfl rfl (by kernel_rfl) func8 bDs
  (of_decide_eq_true (by kernel_rfl)) (by unfold Func.isWrapper;first|(rw[if_pos bD];kernel_rfl)|(rw[if_neg bD];exact⟨rfl,rfl⟩))
  (fun os started H enc _=>lifted os started H enc)
#print axioms holds
