/- Whatever bytes come, in whatever pieces, all that is told is what is told when they come at once. No condition. -/
import Derived.Test.YtbhchphfmhmabaaGreatP00
import Derived.Carry
import Derived.Test.YtbhchphfmhmabaaGreatXDrivePieces
set_option maxHeartbeats 512000000
set_option maxRecDepth 4000
set_option linter.unusedVariables false
set_option linter.unusedSimpArgs false
namespace Go.Proofs.YtbhchphfmhmabaaGreat
open Go.ChangeAt Go.ChangeShapes Go.Deep Go.Joins Go.RowKit Go.WideShapes _root_.Go.Proofs.Tryz
set_option maxRecDepth 100000 in
theorem lifted(os:Os)(started:os.Started)(H:Type)(enc:TypeId×Value→H):
  ReturnsInHanded {} Tryz.checked os 3 .any (Rows.drivePiecesSpec.pre6 enc prog Tryz.f3 Rows.drivePiecesRow.domain false) (Rows.drivePiecesSpec.post enc prog Tryz.f3 false true false false):=by
 refine returnsInHanded_of_change (C:=Tryz.checked) own started (by kernel_rfl) func3
  (ChangeSpec.witness6 (enc:=enc) (C:=Tryz.checked) false ⟨#[],#[.int .u8 0,.int .u8 0,.slice none 0 0,.agg #[.int .u32 0,.int .i64 0,.int .i64 0,.int .i64 0,.int .i64 0,.int .i64 0,.int .i64 0,.int .i64 0,.int .i64 0,.int .i64 0,.int .i64 0,.int .i64 0,.int .i64 0,.int .i64 0,.int .i64 0,.int .i64 0,.int .i64 0,.int .i64 0,.int .i64 0,.int .i64 0,.int .i64 0,.int .i64 0,.int .i64 0],.agg #[.int .i64 0,.int .i64 0],.slice none 0 0,.slice none 0 0],[]⟩ 8 (by kernel_rfl) (by kernel_rfl) (by kernel_rfl) (by kernel_rfl)) ?_
 intro W base args ds gs before hval0 hW hcnd _;have hval:∀(j:Nat) t v,Tryz.f3.params[j]? = some t→args[j]? = some v→Value.okWide prog W .any base t v:=hval0;have hW':=hW;obtain⟨p,q,hA0,hV,rfl,hfz,hnd⟩:=hW;have hA:DataW.TrodAll enc prog W 0 (fun _=>true) true Tryz.f3.params.toList args.toList ds p:=hA0;rw[Tryz.params3]at hA hval;obtain⟨v0,v1,v2,v3,v4,v5,v6,d0,d1,d2,d3,d4,d5,d6,p0,p1,p2,p3,p4,p5,p6,rfl,rfl,rfl,h0,h1,h2,h3,h4,h5,h6⟩:=bH2 hA;clear hA0 hval0;obtain⟨w,rfl,r0⟩:=bEm underlying5 (hval 0 _ _ rfl rfl) h0;obtain⟨h,rfl,r1⟩:=bEm underlying5 (hval 1 _ _ rfl rfl) h1;obtain⟨A2,c2,z,rfl,q2,r2⟩:=bE3 underlying22 underlying95 (by kernel_rfl) (hval 2 _ _ rfl rfl) h2;obtain⟨_,rfl,q3⟩:=bEn underlying31 bF1 (hval 3 _ _ rfl rfl) h3;obtain⟨conf,rfl⟩:=bH4 _ q3;obtain⟨_,rfl,insx,_,rfl,rx4,insy,_,rfl,ry4,rfl⟩:=bEn underlying33 bF5 (hval 4 _ _ rfl rfl) h4;obtain⟨A5,c5,b,rfl,q5,r5⟩:=bE3 underlying34 underlying5 (by kernel_rfl) (hval 5 _ _ rfl rfl) h5;obtain⟨A6,c6,cuts,rfl,q6,r6⟩:=bE3 underlying34 underlying5 (by kernel_rfl) (hval 6 _ _ rfl rfl) h6;refine(bF0 (bFq w r0 h r1 A2 c2 z q2 r2 conf insx rx4 insy ry4 A5 c5 b q5 r5 A6 c6 cuts q6 r6 (w:=W))).mono fun e W' ⟨he,hb⟩=>?_;subst he;exact⟨_,rfl,bG9 (tb:=4) bGe underlying4 hW' rfl rfl (fun es h=>by
  have h':es.length=7:=h
  match es,h' with
  | [_,_,_,_,_,_,_],_=>rfl) (of_decide_eq_true (by kernel_rfl)) hb⟩
set_option maxRecDepth 100000 in
theorem bGb:((Rows.drivePiecesRow.inPlace==Tryz.pinned.checked.prog.inPlace 3)&&(Rows.drivePiecesRow.unfollowed==Tryz.pinned.checked.prog.unfollowed 3)&&(Rows.drivePiecesRow.recurses==Tryz.pinned.checked.prog.recurses 3)&&(Rows.drivePiecesRow.named==Tryz.pinned.checked.prog.varsNamed 3))=true:=by kernel_rfl
set_option maxRecDepth 100000 in
theorem bGc:joinedFacts Tryz.pinned.checked.prog 3 Tryz.f3 Rows.drivePiecesSpec Rows.drivePiecesRow=true:=by
 have h:=bGb;simp only[Bool.and_eq_true]at h;obtain⟨⟨⟨a1,a2⟩,a3⟩,a4⟩:=h;unfold joinedFacts;rw[a1,a2,a3,a4];show (_:Bool)=true
 kernel_rfl
theorem holds:Rows.DrivePiecesSaid :=
 OpenClaim.holds_of_wide 3 Tryz.f3 rfl rfl rfl rfl rfl rfl rfl ⟨rfl,rfl,rfl,rfl,rfl⟩ rfl rfl rfl rfl rfl (by kernel_rfl) func3 bGc
  (of_decide_eq_true (by kernel_rfl)) (by unfold Func.isWrapper;first|(rw[if_pos bD];kernel_rfl)|(rw[if_neg bD];exact⟨rfl,rfl⟩))
  (fun os started H enc _=>lifted os started H enc)
#print axioms holds
