/- Whatever bytes come, what is told is what a navigator tells that takes the frames that stand there, one by one, as bytes. No condition. -/
import Derived.Test.YtbhchphfmhmabaaGreatP00
import Derived.Carry
import Derived.Test.YtbhchphfmhmabaaGreatXDriveTells
set_option maxHeartbeats 512000000
set_option maxRecDepth 4000
set_option linter.unusedVariables false
set_option linter.unusedSimpArgs false
namespace Go.Proofs.YtbhchphfmhmabaaGreat
open Go.ChangeAt Go.ChangeShapes Go.Deep Go.Joins Go.RowKit Go.WideShapes _root_.Go.Proofs.Tryz
set_option maxRecDepth 100000 in
theorem lifted(os:Os)(started:os.Started)(H:Type)(enc:TypeId×Value→H):
  ReturnsInHanded {} Tryz.checked os 6 .any (Rows.driveTellsSpec.pre6 enc prog Tryz.f6 Rows.driveTellsRow.domain false) (Rows.driveTellsSpec.post enc prog Tryz.f6 false true false false):=by
 refine returnsInHanded_of_change (C:=Tryz.checked) own started (by kernel_rfl) func6
  (ChangeSpec.witness6 (enc:=enc) (C:=Tryz.checked) false ⟨#[],#[.int .u8 0,.int .u8 0,.slice none 0 0,.agg #[.int .u32 0,.int .i64 0,.int .i64 0,.int .i64 0,.int .i64 0,.int .i64 0,.int .i64 0,.int .i64 0,.int .i64 0,.int .i64 0,.int .i64 0,.int .i64 0,.int .i64 0,.int .i64 0,.int .i64 0,.int .i64 0,.int .i64 0,.int .i64 0,.int .i64 0,.int .i64 0,.int .i64 0,.int .i64 0,.int .i64 0],.agg #[.int .i64 0,.int .i64 0],.slice none 0 0],[]⟩ 8 (by kernel_rfl) (by kernel_rfl) (by kernel_rfl) (by kernel_rfl)) ?_
 intro W base args ds gs before hval0 hW hcnd _;have hval:∀(j:Nat) t v,Tryz.f6.params[j]? = some t→args[j]? = some v→Value.okWide prog W .any base t v:=hval0;have hW':=hW;obtain⟨p,q,hA0,hV,rfl,hfz,hnd⟩:=hW;have hA:DataW.TrodAll enc prog W 0 (fun _=>true) true Tryz.f6.params.toList args.toList ds p:=hA0;rw[Tryz.params6]at hA hval;obtain⟨v0,v1,v2,v3,v4,v5,d0,d1,d2,d3,d4,d5,p0,p1,p2,p3,p4,p5,rfl,rfl,rfl,h0,h1,h2,h3,h4,h5⟩:=bH5 hA;clear hA0 hval0;obtain⟨w,rfl,r0⟩:=bEq underlying5 (hval 0 _ _ rfl rfl) h0;obtain⟨h,rfl,r1⟩:=bEq underlying5 (hval 1 _ _ rfl rfl) h1;obtain⟨A2,c2,z,rfl,q2,r2⟩:=bEr underlying22 underlying95 (by kernel_rfl) (hval 2 _ _ rfl rfl) h2;obtain⟨_,rfl,q3⟩:=bEs underlying31 bFb (hval 3 _ _ rfl rfl) h3;obtain⟨conf,rfl⟩:=bH7 _ q3;obtain⟨_,rfl,insx,_,rfl,rx4,insy,_,rfl,ry4,rfl⟩:=bEs underlying33 bFf (hval 4 _ _ rfl rfl) h4;obtain⟨A5,c5,b,rfl,q5,r5⟩:=bEr underlying34 underlying5 (by kernel_rfl) (hval 5 _ _ rfl rfl) h5;refine(bFa (bFv w r0 h r1 A2 c2 z q2 r2 conf insx rx4 insy ry4 A5 c5 b q5 r5 (w:=W))).mono fun e W' ⟨he,hb⟩=>?_;subst he;exact⟨_,rfl,bGb (tb:=4) bGh underlying4 hW' rfl rfl (fun es h=>by
  have h':es.length=6:=h
  match es,h' with
  | [_,_,_,_,_,_],_=>rfl) (of_decide_eq_true (by kernel_rfl)) hb⟩
set_option maxRecDepth 100000 in
theorem bGe:((Rows.driveTellsRow.inPlace==Tryz.pinned.checked.prog.inPlace 6)&&(Rows.driveTellsRow.unfollowed==Tryz.pinned.checked.prog.unfollowed 6)&&(Rows.driveTellsRow.recurses==Tryz.pinned.checked.prog.recurses 6)&&(Rows.driveTellsRow.named==Tryz.pinned.checked.prog.varsNamed 6))=true:=by kernel_rfl
set_option maxRecDepth 100000 in
theorem bGf:joinedFacts Tryz.pinned.checked.prog 6 Tryz.f6 Rows.driveTellsSpec Rows.driveTellsRow=true:=by
 have h:=bGe;simp only[Bool.and_eq_true]at h;obtain⟨⟨⟨a1,a2⟩,a3⟩,a4⟩:=h;unfold joinedFacts;rw[a1,a2,a3,a4];show (_:Bool)=true
 kernel_rfl
theorem holds:Rows.DriveTellsSaid :=
 OpenClaim.holds_of_wide 6 Tryz.f6 rfl rfl rfl rfl rfl rfl rfl ⟨rfl,rfl,rfl,rfl,rfl⟩ rfl rfl rfl rfl rfl (by kernel_rfl) func6 bGf
  (of_decide_eq_true (by kernel_rfl)) (by unfold Func.isWrapper;first|(rw[if_pos bD];kernel_rfl)|(rw[if_neg bD];exact⟨rfl,rfl⟩))
  (fun os started H enc _=>lifted os started H enc)
#print axioms holds
