/- A navigator on a map that is none, or too far away, says so and tells nothing else. No condition. -/
import Derived.Carry
import Derived.Test.YthajpemlpmlefaaGreatP53
set_option maxHeartbeats 512000000
set_option maxRecDepth 4000
set_option linter.unusedVariables false
set_option linter.unusedSimpArgs false
namespace Go.Proofs.YthajpemlpmlefaaGreat
open Go.RowKit
@[reducible] def up4(s:NavS):NavS:={ s with seq:=(s.seq+1)%65536 }
theorem tell4{s:NavS}(hm:s.mode=4):tellN s=(up4 s,[⟨7,(s.seq+1)%65536,s.time,s.mode,flagsN (up4 s),0⟩]):=by
 unfold tellN
 dsimp only
 rw[if_neg (fun e=>by have:=e.1;omega)]
theorem ok4{s:NavS}{k:Nat}{x:Frm}(hN:NavOk s k)(hm:s.mode=4)(hx:x.ok)(hk:k≤16777216):NavOk (up4 s) (k+1):=by
 have h:=takeN_ok (W:=0) (H:=0) (f:=[]) hN (fun e=>absurd hm e) hx hk
 rwa [show takeN 0 0 [] s x=tellN s from if_pos hm,tell4 hm]at h
attribute [local irreducible] OJ J HdJ Code.wpIn wpListIn Oper.wpIn bodyPost CallsIn Does
theorem navfaults_law(A:Option Addr)(c:Nat)(ys:List Int){w:World}(hr:RoA w (blocks []) A ys.length c 1 (ints .u8 ys))(hu0:∀x∈ys,InR .u8 x)(cf:Cnf)(x:Int)(hx:InR .i64 x)(y:Int)(hy:InR .i64 y)(Al:Option Addr)(cl:Nat)(l:List Frm)(hrl:RoA w (blocks []) Al l.length cl 6 (flat frmE l))(hl:∀p∈l,p.ok):
  Does Tryz.prog 5 [.slice A ys.length c,.agg (cnfE cf).toArray,.agg #[.int .i64 x,.int .i64 y],.slice Al l.length cl] [] w (fun v _=>v=.bool true):=by
 have hu:U8s ys:=fun v hv=>by
  have:0≤v∧v≤255:=hu0 v hv
  omega
 have iW:CV Tryz.prog 9 [] (.bool true) True:=⟨fun _ w=>works27 w⟩
 have iCk:=navcheck_cv cf
 refine does_of Tryz.func5 rfl Tryz.ntmps5 rfl ⟨by simp,.nil⟩ (fun n=>?_)
 simp only[slots]
 by_cases h1:3000<ys.length
 ·have iG:∀w0 W H t u a b,MS Tryz.prog w0 W H (.binOp .gtr t a b u) [.int .i64 (ys.length:Int),.int .i64 3000] (.bool true) True:=fun _ _ _ _ _ _ _=>msM inferInstance trivial (congrArg Value.bool (decide_eq_true (by omega)))
  refine z_tas
  exact j_out1 rfl rfl (.nil _) rfl
 have iG1:∀w0 W H t u a b,MS Tryz.prog w0 W H (.binOp .gtr t a b u) [.int .i64 (ys.length:Int),.int .i64 3000] (.bool false) True:=fun _ _ _ _ _ _ _=>msM inferInstance trivial (congrArg Value.bool (decide_eq_false (by omega)))
 by_cases h2:60<l.length
 ·have iG:∀w0 W H t u a b,MS Tryz.prog w0 W H (.binOp .gtr t a b u) [.int .i64 (l.length:Int),.int .i64 60] (.bool true) True:=fun _ _ _ _ _ _ _=>msM inferInstance trivial (congrArg Value.bool (decide_eq_true (by omega)))
  refine z_tas
  exact j_out1 rfl rfl (.nil _) rfl
 have iG2:∀w0 W H t u a b,MS Tryz.prog w0 W H (.binOp .gtr t a b u) [.int .i64 (l.length:Int),.int .i64 60] (.bool false) True:=fun _ _ _ _ _ _ _=>msM inferInstance trivial (congrArg Value.bool (decide_eq_false (by omega)))
 by_cases hC:cnfC cf=0
 rotate_left
 ·have iN:∀w0 W H t u a b,MS Tryz.prog w0 W H (.binOp .neq t a b u) [.int .i64 (cnfC cf),.int .i64 0] (.bool true) True:=fun _ _ _ _ _ _ _=>msM inferInstance trivial (congrArg Value.bool (by simpa using hC))
  refine z_tas
  exact j_out1 rfl rfl (.nil _) rfl
 rw[hC]at iCk
 refine z_tas
 refine lf rfl rfl rfl (S:=[]) (fun w hw ho=>nnew_c A c ys cf x y w ⟨hr.h.go hw (Split.nil _)⟩ hu (by omega)) ?_
 rintro v S' (⟨h,-⟩ | ⟨-,g,s0,a0,T,rfl,rfl,ptr,rfl,hn⟩)
 ·exact absurd hC h
 refine j_swapT ?_
 simp only[List.cons_append,List.nil_append]
 refine z_tas
 refine lf rfl rfl rfl (S:=[]) (fun w hw ho=>get_any9 A c ys w ⟨hr.h.go hw (Split.nil _)⟩ hu (by omega)) ?_
 rcases hn with⟨rfl,hg0,hw36,K,-,-,rfl,rfl⟩ | ⟨rfl,rfl,rfl,hb⟩
 ·rintro v S' (⟨code,hne,hg,-⟩ | ⟨-,gl,Ag,cg,hgl,-,rfl,rfl⟩)
  ·exact absurd (hg.one hg0) hne
  have hN:=newN_ok hC hw36
  have hL:=hN.nvl
  have hxy:=of_decide_eq_true hw36
  have iM0:∀w0 W H t u a b,MS Tryz.prog w0 W H (.binOp .eql t a b u) [.int .i64 (newN cf x y).mode,.int .i64 4] (.bool false) True:=fun _ _ _ _ _ _ _=>msM inferInstance trivial rfl
  have iX0:∀w0 W H t u a b,MS Tryz.prog w0 W H (.binOp .lss t a b u) [.int .i64 x,.int .i64 (-68719476736)] (.bool false) True:=fun _ _ _ _ _ _ _=>msM inferInstance trivial (congrArg Value.bool (decide_eq_false (by omega)))
  have iX1:∀w0 W H t u a b,MS Tryz.prog w0 W H (.binOp .gtr t a b u) [.int .i64 x,.int .i64 68719476736] (.bool false) True:=fun _ _ _ _ _ _ _=>msM inferInstance trivial (congrArg Value.bool (decide_eq_false (by omega)))
  have iX2:∀w0 W H t u a b,MS Tryz.prog w0 W H (.binOp .lss t a b u) [.int .i64 y,.int .i64 (-68719476736)] (.bool false) True:=fun _ _ _ _ _ _ _=>msM inferInstance trivial (congrArg Value.bool (decide_eq_false (by omega)))
  have iX3:∀w0 W H t u a b,MS Tryz.prog w0 W H (.binOp .gtr t a b u) [.int .i64 y,.int .i64 68719476736] (.bool false) True:=fun _ _ _ _ _ _ _=>msM inferInstance trivial (congrArg Value.bool (decide_eq_false (by omega)))
  refine z_tas
  refine lf rfl rfl rfl (S:=[.blk g 109 (navE (newN cf x y) (nvA0 (some ⟨K.g,0,none⟩)))]) (fun w hw ho=>mode_any g (newN cf x y) _ w ho hL) ?_
  rintro v S' ⟨rfl,rfl⟩
  refine z_tas
  refine c_rounds 2 ?_
  refine z_tas
  all_goals exact j_out1 rfl rfl (.nil _) rfl
 ·have hN:=newF_ok hC ⟨hx,hy⟩
  have hm0:({ newN cf x y with mode:=4 }:NavS).mode=4:=rfl
  have hp0:({ newN cf x y with mode:=4 }:NavS).g.p=[]:=rfl
  generalize ({ newN cf x y with mode:=4 }:NavS)=s0 at *
  have hL:=hN.nvl
  have iM0:∀w0 W H t u a b,MS Tryz.prog w0 W H (.binOp .eql t a b u) [.int .i64 s0.mode,.int .i64 4] (.bool true) True:=fun _ _ _ _ _ _ _=>msM inferInstance trivial (congrArg Value.bool (by simp[hm0]))
  rintro v S' (⟨code,hne,hg,rfl,rfl⟩ | ⟨hg,gl,Ag,cg,hgl,-,rfl,rfl⟩)
  rotate_left
  have hw36:within36 x y=false:=by
   rcases hb with⟨code,hne,hg0⟩ | ⟨-,h⟩
   ·exact absurd (hg0.one hg) hne
   ·exact h
  have hout:=of_decide_eq_false hw36
  have hq:x < -68719476736∨(¬x < -68719476736∧68719476736<x)∨(¬x < -68719476736∧¬68719476736<x∧y < -68719476736)∨(¬x < -68719476736∧¬68719476736<x∧¬y < -68719476736∧68719476736<y):=by omega
  rcases hq with q | ⟨q1,q⟩ | ⟨q1,q2,q⟩ | ⟨q1,q2,q3,q⟩
  all_goals try have iC0:∀w0 W H t u a b,MS Tryz.prog w0 W H (.binOp .neq t a b u) [.int .i64 code,.int .i64 0] (.bool true) True:=fun _ _ _ _ _ _ _=>msM inferInstance trivial (congrArg Value.bool (by simpa using hne))
  all_goals first|(have iX0:∀w0 W H t u a b,MS Tryz.prog w0 W H (.binOp .lss t a b u) [.int .i64 x,.int .i64 (-68719476736)] (.bool true) True:=fun _ _ _ _ _ _ _=>msM inferInstance trivial (congrArg Value.bool (decide_eq_true (by omega))))|(have iX0:∀w0 W H t u a b,MS Tryz.prog w0 W H (.binOp .lss t a b u) [.int .i64 x,.int .i64 (-68719476736)] (.bool false) True:=fun _ _ _ _ _ _ _=>msM inferInstance trivial (congrArg Value.bool (decide_eq_false (by omega))))|skip
  all_goals first|(have iX1:∀w0 W H t u a b,MS Tryz.prog w0 W H (.binOp .gtr t a b u) [.int .i64 x,.int .i64 68719476736] (.bool true) True:=fun _ _ _ _ _ _ _=>msM inferInstance trivial (congrArg Value.bool (decide_eq_true (by omega))))|(have iX1:∀w0 W H t u a b,MS Tryz.prog w0 W H (.binOp .gtr t a b u) [.int .i64 x,.int .i64 68719476736] (.bool false) True:=fun _ _ _ _ _ _ _=>msM inferInstance trivial (congrArg Value.bool (decide_eq_false (by omega))))|skip
  all_goals first|(have iX2:∀w0 W H t u a b,MS Tryz.prog w0 W H (.binOp .lss t a b u) [.int .i64 y,.int .i64 (-68719476736)] (.bool true) True:=fun _ _ _ _ _ _ _=>msM inferInstance trivial (congrArg Value.bool (decide_eq_true (by omega))))|(have iX2:∀w0 W H t u a b,MS Tryz.prog w0 W H (.binOp .lss t a b u) [.int .i64 y,.int .i64 (-68719476736)] (.bool false) True:=fun _ _ _ _ _ _ _=>msM inferInstance trivial (congrArg Value.bool (decide_eq_false (by omega))))|skip
  all_goals first|(have iX3:∀w0 W H t u a b,MS Tryz.prog w0 W H (.binOp .gtr t a b u) [.int .i64 y,.int .i64 68719476736] (.bool true) True:=fun _ _ _ _ _ _ _=>msM inferInstance trivial (congrArg Value.bool (decide_eq_true (by omega))))|(have iX3:∀w0 W H t u a b,MS Tryz.prog w0 W H (.binOp .gtr t a b u) [.int .i64 y,.int .i64 68719476736] (.bool false) True:=fun _ _ _ _ _ _ _=>msM inferInstance trivial (congrArg Value.bool (decide_eq_false (by omega))))|skip
  all_goals refine z_tas
  all_goals refine lf rfl rfl rfl (S:=[.blk g 109 (navE s0 (nvA0 none))]) (fun w hw ho=>mode_any g s0 _ w ho hL) ?_
  all_goals rintro v S' ⟨rfl,rfl⟩
  all_goals refine z_tas
  all_goals refine c_loop (X:=Nat×NavS) (fun q=>q.1≤l.length∧NavOk q.2 q.1∧q.2.mode=4∧q.2.g.p=[]) (fun q=>[(3,.slice Al l.length cl),(9,.pointer (some ⟨g,0,none⟩)),(14,.bool true),(15,.int .i64 q.1)]) (fun q=>[.blk g 109 (navE q.2 (nvA0 none))]) (fun q=>l.length-q.1) (0,s0) ⟨Nat.zero_le _,hN,hm0,hp0⟩ ⟨rfl,rfl,rfl,rfl,trivial⟩ Sub.au ?_
  all_goals rintro⟨i,s⟩ ⟨hi,hN,hm,hp⟩
  all_goals dsimp only at hi hN hm hp ⊢
  all_goals rcases Nat.lt_or_ge i l.length with h|h
  all_goals try (have h':l.length≤i:=h;refine z_tas;exact j_out1 (S':=[]) rfl rfl (.nil _) rfl)
  all_goals obtain⟨bL,oL,rfl,hLr⟩:=hrl.at_ (by omega:0<l.length)
  all_goals have hTk:=fun w ho=>take4_t g i s (nvA0 none) (l.getD i default) w ho hN (by omega) hm (by rw[hp];exact⟨Ro.nil _ _ _⟩)
  all_goals have hN2:=ok4 hN hm (hl _ (by rw[List.getD_eq_getElem?_getD,List.getElem?_eq_getElem h];exact List.getElem_mem h):(l.getD i default).ok) (by omega)
  all_goals have hm2:(up4 s).mode=4:=hm
  all_goals have hp2:(up4 s).g.p=[]:=hp
  all_goals rw[tell4 hm]at hTk
  all_goals generalize up4 s=s2 at *
  all_goals generalize (s.seq+1)%65536=sq at *
  all_goals generalize flagsN s2=fl at *
  all_goals have hL2:=hN2.nvl
  all_goals have iQ1:∀w0 W H t u a b,MS Tryz.prog w0 W H (.binOp .neq t a b u) [.int .i64 ((1:Nat):Int),.int .i64 1] (.bool false) True:=fun _ _ _ _ _ _ _=>msM inferInstance trivial rfl
  all_goals have iQ2:∀w0 W H t u a b,MS Tryz.prog w0 W H (.binOp .neq t a b u) [.int .i64 7,.int .i64 7] (.bool false) True:=fun _ _ _ _ _ _ _=>msM inferInstance trivial rfl
  all_goals have iQ3:∀w0 W H t u a b,MS Tryz.prog w0 W H (.binOp .neq t a b u) [.int .i32 s.mode,.int .i32 4] (.bool false) True:=fun _ _ _ _ _ _ _=>msM inferInstance trivial (congrArg Value.bool (by simp[hm]))
  all_goals have iQ4:∀w0 W H t u a b,MS Tryz.prog w0 W H (.binOp .neq t a b u) [.int .i64 s2.mode,.int .i64 4] (.bool false) True:=fun _ _ _ _ _ _ _=>msM inferInstance trivial (congrArg Value.bool (by simp[hm2]))
  all_goals refine z_tas
  all_goals refine lf rfl rfl rfl (S:=[.blk g 109 (navE s (nvA0 none))]) (fun w hw ho=>hTk w ho) ?_
  all_goals rintro v S' ⟨A5,c5,rfl,rfl⟩
  all_goals simp only[List.length_cons,List.length_nil,Nat.zero_add]
  all_goals refine j_perm (H':=[.row (.slice A5 1 c5) 50 6 1 [.int .i64 7,.int .u16 sq,.int .u32 s.time,.int .i32 s.mode,.int .i32 fl,.int .i32 0],.blk g 109 (navE s2 (nvA0 none))]) (.refl _) ?_
  all_goals refine j_opn (A:=A5) (m:=1) (cc:=c5) (by decide) (fun ga hga=>?_)
  all_goals subst hga
  all_goals refine z_tas
  all_goals refine lf rfl rfl rfl (S:=[.blk g 109 (navE s2 (nvA0 none))]) (fun w hw ho=>mode_any g s2 _ w ho hL2) ?_
  all_goals rintro v S' ⟨rfl,rfl⟩
  all_goals refine z_tas
  all_goals exact c_round (i+1,s2) ⟨h,hN2,hm2,hp2⟩ (by show l.length-(i+1)<l.length-i;omega) ⟨rfl,rfl,rfl,rfl,trivial⟩ Sub.au
open Go.ChangeAt Go.ChangeShapes Go.Deep Go.Joins Go.WideShapes
set_option maxRecDepth 100000 in
theorem lifted(os:Os)(started:os.Started)(H:Type)(enc:TypeId×Value→H):
  ReturnsInHanded {} Tryz.checked os 5 .any (Rows.navFaultsSpec.pre6 enc Tryz.prog Tryz.f5 Rows.navFaultsRow.domain false) (Rows.navFaultsSpec.post enc Tryz.prog Tryz.f5 false true false false):=by
 refine returnsInHanded_of_change (C:=Tryz.checked) own started (by kernel_rfl) Tryz.func5
  (ChangeSpec.witness6 (enc:=enc) (C:=Tryz.checked) false ⟨#[],#[.slice none 0 0,.agg #[.int .u32 0,.int .i64 0,.int .i64 0,.int .i64 0,.int .i64 0,.int .i64 0,.int .i64 0,.int .i64 0,.int .i64 0,.int .i64 0,.int .i64 0,.int .i64 0,.int .i64 0,.int .i64 0,.int .i64 0,.int .i64 0,.int .i64 0,.int .i64 0,.int .i64 0,.int .i64 0,.int .i64 0,.int .i64 0,.int .i64 0],.agg #[.int .i64 0,.int .i64 0],.slice none 0 0],[]⟩ 8 (by kernel_rfl) (by kernel_rfl) (by kernel_rfl) (by kernel_rfl)) ?_
 intro W base args ds gs before hval0 hW hcnd _
 have hval:∀(j:Nat) t v,Tryz.f5.params[j]? = some t→args[j]? = some v→Value.okWide Tryz.prog W .any base t v:=hval0
 have hW':=hW
 obtain⟨p,q,hA0,hV,rfl,hfz,hnd⟩:=hW
 have hA:DataW.TrodAll enc Tryz.prog W 0 (fun _=>true) true Tryz.f5.params.toList args.toList ds p:=hA0
 rw[Tryz.params5]at hA hval
 obtain⟨v0,v1,v2,v3,d0,d1,d2,d3,p0,p1,p2,p3,rfl,rfl,rfl,h0,h1,h2,h3⟩:=trodAll_four hA
 clear hA0 hval0
 obtain⟨A0,c0,z,rfl,q0,r0⟩:=gate_ints Tryz.underlying67 Tryz.underlying5 (by kernel_rfl) (hval 0 _ _ rfl rfl) h0
 obtain⟨_,rfl,q1⟩:=gate_row Tryz.underlying31 cells_conf (hval 1 _ _ rfl rfl) h1
 obtain⟨cf,rfl⟩:=un_conf _ q1
 obtain⟨_,rfl,sx,_,rfl,rx2,sy,_,rfl,ry2,rfl⟩:=gate_row Tryz.underlying33 cells_spot (hval 2 _ _ rfl rfl) h2
 obtain⟨A3,c3,l,rfl,q3,r3⟩:=gate_rows (en:=frmE) Tryz.underlying34 cells_frame rfl un_frame (hval 3 _ _ rfl rfl) h3
 refine(below_of (navfaults_law A0 c0 z q0 r0 cf sx rx2 sy ry2 A3 c3 l q3 r3 (w:=W))).mono fun e W' ⟨he,hb⟩=>?_
 subst he
 exact⟨_,rfl,gate_post (tb:=4) laidOut Tryz.underlying4 hW' rfl rfl (fun es h=>by
  have h':es.length=4:=h
  match es,h' with
  | [_,_,_,_],_=>rfl) (of_decide_eq_true (by kernel_rfl)) hb⟩
theorem holds:Rows.NavFaultsSaid :=
 OpenClaim.holds_of_wide 5 Tryz.f5 rfl rfl rfl rfl rfl rfl rfl ⟨rfl,rfl,rfl,rfl,rfl⟩ rfl rfl rfl rfl rfl (by kernel_rfl) Tryz.func5 (by kernel_rfl)
  (of_decide_eq_true (by kernel_rfl)) (by unfold Func.isWrapper;first|(rw[if_pos (by decide +kernel)];kernel_rfl)|(rw[if_neg (by decide +kernel)];exact⟨rfl,rfl⟩))
  (fun os started H enc _=>lifted os started H enc)
#print axioms holds
end Go.Proofs.YthajpemlpmlefaaGreat
