/- How far away any place is from where one thinks to be, and whether it is within what one is sure of. No condition. -/
import Derived.Test.YtpmkboockihdbaaGreatP00
import Derived.Carry
import Derived.Test.YtpmkboockihdbaaGreatXLoopOff
set_option maxHeartbeats 512000000
set_option maxRecDepth 4000
set_option linter.unusedVariables false
set_option linter.unusedSimpArgs false
namespace Go.Proofs.YtpmkboockihdbaaGreat
open Go.ChangeAt Go.ChangeShapes Go.Deep Go.Joins Go.RowKit Go.WideShapes _root_.Go.Proofs.Tryz
set_option maxRecDepth 100000 in
theorem lifted(os:Os)(started:os.Started)(H:Type)(enc:TypeId×Value→H):
  ReturnsInHanded {} Tryz.checked os 7 .any (Rows.loopOffSpec.pre6 enc prog Tryz.f7 Rows.loopOffRow.domain false) (Rows.loopOffSpec.post enc prog Tryz.f7 false true false false):=by
 refine returnsInHanded_of_change (C:=Tryz.checked) own started (by kernel_rfl) func7
  (ChangeSpec.witness6 (enc:=enc) (C:=Tryz.checked) false ⟨#[],#[.int .u8 0,.int .u8 0,.slice none 0 0,.agg #[.int .u32 0,.int .i64 0,.int .i64 0,.int .i64 0,.int .i64 0,.int .i64 0,.int .i64 0,.int .i64 0,.int .i64 0,.int .i64 0,.int .i64 0,.int .i64 0,.int .i64 0,.int .i64 0,.int .i64 0,.int .i64 0,.int .i64 0,.int .i64 0,.int .i64 0,.int .i64 0,.int .i64 0,.int .i64 0,.int .i64 0],.agg #[.int .i64 0,.int .i64 0],.int .u16 0,.slice none 0 0,.agg #[.int .i64 0,.int .i64 0],.int .i64 0],[]⟩ 8 (by kernel_rfl) (by kernel_rfl) (by kernel_rfl) (by kernel_rfl)) ?_
 intro W base args ds gs before hval0 hW hcnd _;have hval:∀(j:Nat) t v,Tryz.f7.params[j]? = some t→args[j]? = some v→Value.okWide prog W .any base t v:=hval0;have hW':=hW;obtain⟨p,q,hA0,hV,rfl,hfz,hnd⟩:=hW;have hA:DataW.TrodAll enc prog W 0 (fun _=>true) true Tryz.f7.params.toList args.toList ds p:=hA0;rw[Tryz.params7]at hA hval;obtain⟨v0,v1,v2,v3,v4,v5,v6,v7,v8,d0,d1,d2,d3,d4,d5,d6,d7,d8,p0,p1,p2,p3,p4,p5,p6,p7,p8,rfl,rfl,rfl,h0,h1,h2,h3,h4,h5,h6,h7,h8⟩:=bEd hA;clear hA0 hval0;obtain⟨a,rfl,r0⟩:=aIx underlying5 (hval 0 _ _ rfl rfl) h0;obtain⟨b,rfl,r1⟩:=aIx underlying5 (hval 1 _ _ rfl rfl) h1;obtain⟨A2,c2,z,rfl,q2,r2⟩:=bDt underlying22 underlying121 (by kernel_rfl) (hval 2 _ _ rfl rfl) h2;obtain⟨_,rfl,q3⟩:=aQ6 underlying52 bDn (hval 3 _ _ rfl rfl) h3;obtain⟨cf,rfl⟩:=bEe _ q3;obtain⟨_,rfl,sx,_,rfl,rx4,sy,_,rfl,ry4,rfl⟩:=aQ6 underlying44 aW1 (hval 4 _ _ rfl rfl) h4;obtain⟨lo,rfl,r5⟩:=aIx underlying32 (hval 5 _ _ rfl rfl) h5;obtain⟨A6,c6,l,rfl,q6,r6⟩:=bDv (en:=dR) underlying64 bDo rfl bEf (hval 6 _ _ rfl rfl) h6;obtain⟨_,rfl,tx,_,rfl,rx7,ty,_,rfl,ry7,rfl⟩:=aQ6 underlying44 aW1 (hval 7 _ _ rfl rfl) h7;obtain⟨times,rfl,r8⟩:=aIx underlying2 (hval 8 _ _ rfl rfl) h8;refine(bDl (bE0 a r0 b r1 A2 c2 z q2 r2 cf sx rx4 sy ry4 lo r5 A6 c6 l q6 r6 tx rx7 ty ry7 times r8 (w:=W))).mono fun e W' ⟨he,hb⟩=>?_;subst he;exact⟨_,rfl,bDu (tb:=4) bDy underlying4 hW' rfl rfl (fun es h=>by
  have h':es.length=9:=h
  match es,h' with
  | [_,_,_,_,_,_,_,_,_],_=>rfl) (of_decide_eq_true (by kernel_rfl)) hb⟩
set_option maxRecDepth 100000 in
theorem bDw:((Rows.loopOffRow.inPlace==Tryz.pinned.checked.prog.inPlace 7)&&(Rows.loopOffRow.unfollowed==Tryz.pinned.checked.prog.unfollowed 7)&&(Rows.loopOffRow.recurses==Tryz.pinned.checked.prog.recurses 7)&&(Rows.loopOffRow.named==Tryz.pinned.checked.prog.varsNamed 7))=true:=by kernel_rfl
set_option maxRecDepth 100000 in
theorem bDx:joinedFacts Tryz.pinned.checked.prog 7 Tryz.f7 Rows.loopOffSpec Rows.loopOffRow=true:=by
 have h:=bDw;simp only[Bool.and_eq_true]at h;obtain⟨⟨⟨a1,a2⟩,a3⟩,a4⟩:=h;unfold joinedFacts;rw[a1,a2,a3,a4];show (_:Bool)=true
 kernel_rfl
theorem holds:Rows.LoopOffSaid :=
 OpenClaim.holds_of_wide 7 Tryz.f7 rfl rfl rfl rfl rfl rfl rfl ⟨rfl,rfl,rfl,rfl,rfl⟩ rfl rfl rfl rfl rfl (by kernel_rfl) func7 bDx
  (of_decide_eq_true (by kernel_rfl)) (by unfold Func.isWrapper;first|(rw[if_pos bD];kernel_rfl)|(rw[if_neg bD];exact⟨rfl,rfl⟩))
  (fun os started H enc _=>lifted os started H enc)
#print axioms holds
