/- There is a drive just of a configuration that may be, and on bytes that are no map it tells its fault once for each frame. No condition. -/
import Derived.Test.YtbhchphfmhmabaaGreatP00
import Derived.Carry
import Derived.Test.YtbhchphfmhmabaaGreatXDriveNone
set_option maxHeartbeats 512000000
set_option maxRecDepth 4000
set_option linter.unusedVariables false
set_option linter.unusedSimpArgs false
namespace Go.Proofs.YtbhchphfmhmabaaGreat
open Go.ChangeAt Go.ChangeShapes Go.Deep Go.Joins Go.RowKit Go.WideShapes _root_.Go.Proofs.Tryz
set_option maxRecDepth 100000 in
theorem lifted(os:Os)(started:os.Started)(H:Type)(enc:TypeId×Value→H):
  ReturnsInHanded {} Tryz.checked os 5 .any (Rows.driveNoneSpec.pre6 enc prog Tryz.f5 Rows.driveNoneRow.domain false) (Rows.driveNoneSpec.post enc prog Tryz.f5 false true false false):=by
 refine returnsInHanded_of_change (C:=Tryz.checked) own started (by kernel_rfl) func5
  (ChangeSpec.witness6 (enc:=enc) (C:=Tryz.checked) false ⟨#[],#[.slice none 0 0,.agg #[.int .u32 0,.int .i64 0,.int .i64 0,.int .i64 0,.int .i64 0,.int .i64 0,.int .i64 0,.int .i64 0,.int .i64 0,.int .i64 0,.int .i64 0,.int .i64 0,.int .i64 0,.int .i64 0,.int .i64 0,.int .i64 0,.int .i64 0,.int .i64 0,.int .i64 0,.int .i64 0,.int .i64 0,.int .i64 0,.int .i64 0],.agg #[.int .i64 0,.int .i64 0],.slice none 0 0],[]⟩ 8 (by kernel_rfl) (by kernel_rfl) (by kernel_rfl) (by kernel_rfl)) ?_
 intro W base args ds gs before hval0 hW hcnd _;have hval:∀(j:Nat) t v,Tryz.f5.params[j]? = some t→args[j]? = some v→Value.okWide prog W .any base t v:=hval0;have hW':=hW;obtain⟨p,q,hA0,hV,rfl,hfz,hnd⟩:=hW;have hA:DataW.TrodAll enc prog W 0 (fun _=>true) true Tryz.f5.params.toList args.toList ds p:=hA0;rw[Tryz.params5]at hA hval;obtain⟨v0,v1,v2,v3,d0,d1,d2,d3,p0,p1,p2,p3,rfl,rfl,rfl,h0,h1,h2,h3⟩:=trodAll_four hA;clear hA0 hval0;obtain⟨A0,c0,m,rfl,q0,r0⟩:=bEj underlying34 underlying5 (by kernel_rfl) (hval 0 _ _ rfl rfl) h0;obtain⟨_,rfl,q1⟩:=bEk underlying31 bF4 (hval 1 _ _ rfl rfl) h1;obtain⟨conf,rfl⟩:=bH2 _ q1;obtain⟨_,rfl,insx,_,rfl,rx2,insy,_,rfl,ry2,rfl⟩:=bEk underlying33 bF8 (hval 2 _ _ rfl rfl) h2;obtain⟨A3,c3,b,rfl,q3,r3⟩:=bEj underlying34 underlying5 (by kernel_rfl) (hval 3 _ _ rfl rfl) h3;refine(bF3 (bFr A0 c0 m q0 r0 conf insx rx2 insy ry2 A3 c3 b q3 r3 (w:=W))).mono fun e W' ⟨he,hb⟩=>?_;subst he;exact⟨_,rfl,bGa (tb:=4) bGg underlying4 hW' rfl rfl (fun es h=>by
  have h':es.length=4:=h
  match es,h' with
  | [_,_,_,_],_=>rfl) (of_decide_eq_true (by kernel_rfl)) hb⟩
set_option maxRecDepth 100000 in
theorem bGd:((Rows.driveNoneRow.inPlace==Tryz.pinned.checked.prog.inPlace 5)&&(Rows.driveNoneRow.unfollowed==Tryz.pinned.checked.prog.unfollowed 5)&&(Rows.driveNoneRow.recurses==Tryz.pinned.checked.prog.recurses 5)&&(Rows.driveNoneRow.named==Tryz.pinned.checked.prog.varsNamed 5))=true:=by kernel_rfl
set_option maxRecDepth 100000 in
theorem bGe:joinedFacts Tryz.pinned.checked.prog 5 Tryz.f5 Rows.driveNoneSpec Rows.driveNoneRow=true:=by
 have h:=bGd;simp only[Bool.and_eq_true]at h;obtain⟨⟨⟨a1,a2⟩,a3⟩,a4⟩:=h;unfold joinedFacts;rw[a1,a2,a3,a4];show (_:Bool)=true
 kernel_rfl
theorem holds:Rows.DriveNoneSaid :=
 OpenClaim.holds_of_wide 5 Tryz.f5 rfl rfl rfl rfl rfl rfl rfl ⟨rfl,rfl,rfl,rfl,rfl⟩ rfl rfl rfl rfl rfl (by kernel_rfl) func5 bGe
  (of_decide_eq_true (by kernel_rfl)) (by unfold Func.isWrapper;first|(rw[if_pos bD];kernel_rfl)|(rw[if_neg bD];exact⟨rfl,rfl⟩))
  (fun os started H enc _=>lifted os started H enc)
#print axioms holds
