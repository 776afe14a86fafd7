/- How much each place of a grid is believed is what the reference says. No condition. -/
import Derived.Test.YtpmkboockihdbaaGreatP00
import Derived.Carry
import Derived.Test.YtpmkboockihdbaaGreatXNavWeights
set_option maxHeartbeats 512000000
set_option maxRecDepth 4000
set_option linter.unusedVariables false
set_option linter.unusedSimpArgs false
namespace Go.Proofs.YtpmkboockihdbaaGreat
open Go.ChangeAt Go.ChangeShapes Go.Deep Go.Joins Go.RowKit Go.WideShapes _root_.Go.Proofs.Tryz
set_option maxRecDepth 100000 in
theorem lifted(os:Os)(started:os.Started)(H:Type)(enc:TypeId×Value→H):
  ReturnsInHanded {} Tryz.checked os 3 .any (Rows.navWeightsSpec.pre6 enc prog Tryz.f3 Rows.navWeightsRow.domain false) (Rows.navWeightsSpec.post enc prog Tryz.f3 false true false false):=by
 refine returnsInHanded_of_change (C:=Tryz.checked) own started (by kernel_rfl) func3
  (ChangeSpec.witness6 (enc:=enc) (C:=Tryz.checked) false ⟨#[],#[.int .u8 0,.int .u8 0,.slice none 0 0,.int .u8 0,.int .u8 0,.slice none 0 0,.int .i64 0,.int .i64 0,.agg #[.int .i64 0,.int .i64 0,.int .i64 0],.int .i64 0],[]⟩ 8 (by kernel_rfl) (by kernel_rfl) (by kernel_rfl) (by kernel_rfl)) ?_
 intro W base args ds gs before hval0 hW hcnd _;have hval:∀(j:Nat) t v,Tryz.f3.params[j]? = some t→args[j]? = some v→Value.okWide prog W .any base t v:=hval0;have hW':=hW;obtain⟨p,q,hA0,hV,rfl,hfz,hnd⟩:=hW;have hA:DataW.TrodAll enc prog W 0 (fun _=>true) true Tryz.f3.params.toList args.toList ds p:=hA0;rw[Tryz.params3]at hA hval;obtain⟨v0,v1,v2,v3,v4,v5,v6,v7,v8,v9,d0,d1,d2,d3,d4,d5,d6,d7,d8,d9,p0,p1,p2,p3,p4,p5,p6,p7,p8,p9,rfl,rfl,rfl,h0,h1,h2,h3,h4,h5,h6,h7,h8,h9⟩:=bGa hA;clear hA0 hval0;obtain⟨a,rfl,r0⟩:=aPy underlying5 (hval 0 _ _ rfl rfl) h0;obtain⟨b,rfl,r1⟩:=aPy underlying5 (hval 1 _ _ rfl rfl) h1;obtain⟨A2,c2,z,rfl,q2,r2⟩:=bDr underlying22 underlying121 (by kernel_rfl) (hval 2 _ _ rfl rfl) h2;obtain⟨a2,rfl,r3⟩:=aPy underlying5 (hval 3 _ _ rfl rfl) h3;obtain⟨b2,rfl,r4⟩:=aPy underlying5 (hval 4 _ _ rfl rfl) h4;obtain⟨A5,c5,ks,rfl,q5,r5⟩:=bDr underlying23 underlying32 (by kernel_rfl) (hval 5 _ _ rfl rfl) h5;obtain⟨x,rfl,r6⟩:=aPy underlying2 (hval 6 _ _ rfl rfl) h6;obtain⟨y,rfl,r7⟩:=aPy underlying2 (hval 7 _ _ rfl rfl) h7;obtain⟨_,rfl,n0,_,rfl,ra8,n1,_,rfl,rb8,n2,_,rfl,rc8,rfl⟩:=bF4 underlying25 bEt (hval 8 _ _ rfl rfl) h8;obtain⟨zz,rfl,r9⟩:=aPy underlying2 (hval 9 _ _ rfl rfl) h9;refine(bEl (bFg a r0 b r1 A2 c2 z q2 r2 a2 r3 b2 r4 A5 c5 ks q5 r5 x r6 y r7 ⟨n0,n1,n2⟩ ra8 rb8 rc8 zz r9 (w:=W))).mono fun e W' ⟨he,hb⟩=>?_;subst he;exact⟨_,rfl,bF3 (tb:=4) bFb underlying4 hW' rfl rfl (fun es h=>by
  have h':es.length=10:=h
  match es,h' with
  | [_,_,_,_,_,_,_,_,_,_],_=>rfl) (of_decide_eq_true (by kernel_rfl)) hb⟩
set_option maxRecDepth 100000 in
theorem bF9:((Rows.navWeightsRow.inPlace==Tryz.pinned.checked.prog.inPlace 3)&&(Rows.navWeightsRow.unfollowed==Tryz.pinned.checked.prog.unfollowed 3)&&(Rows.navWeightsRow.recurses==Tryz.pinned.checked.prog.recurses 3)&&(Rows.navWeightsRow.named==Tryz.pinned.checked.prog.varsNamed 3))=true:=by kernel_rfl
set_option maxRecDepth 100000 in
theorem bFa:joinedFacts Tryz.pinned.checked.prog 3 Tryz.f3 Rows.navWeightsSpec Rows.navWeightsRow=true:=by
 have h:=bF9;simp only[Bool.and_eq_true]at h;obtain⟨⟨⟨a1,a2⟩,a3⟩,a4⟩:=h;unfold joinedFacts;rw[a1,a2,a3,a4];show (_:Bool)=true
 kernel_rfl
theorem holds:Rows.NavWeightsSaid :=
 OpenClaim.holds_of_wide 3 Tryz.f3 rfl rfl rfl rfl rfl rfl rfl ⟨rfl,rfl,rfl,rfl,rfl⟩ rfl rfl rfl rfl rfl (by kernel_rfl) func3 bFa
  (of_decide_eq_true (by kernel_rfl)) (by unfold Func.isWrapper;first|(rw[if_pos bD];kernel_rfl)|(rw[if_neg bD];exact⟨rfl,rfl⟩))
  (fun os started H enc _=>lifted os started H enc)
#print axioms holds
