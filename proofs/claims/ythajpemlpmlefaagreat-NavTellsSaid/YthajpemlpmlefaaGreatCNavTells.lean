/- What a navigator tells lies within its grid. No condition. -/
import Derived.Carry
import Derived.Test.YthajpemlpmlefaaGreatP53
set_option maxHeartbeats 512000000
set_option maxRecDepth 4000
set_option linter.unusedVariables false
set_option linter.unusedSimpArgs false
namespace Go.Proofs.YthajpemlpmlefaaGreat
open Go
instance:Ff Tryz.prog 33 0 0 2:=⟨_,_,Tryz.underlying33,rfl,rfl,rfl⟩
instance:Ff Tryz.prog 33 1 1 2:=⟨_,_,Tryz.underlying33,rfl,rfl,rfl⟩
end Go.Proofs.YthajpemlpmlefaaGreat
namespace Go.Proofs.YthajpemlpmlefaaGreat
open Go.RowKit
section
variable {α:Type} {e:α→List Value} {s:Nat}
instance (priority:=90) [Inhabited α](l:List α)[h:RowE e s]:ECut (flat e l) 0 s (e (l.getD 0 default)) (0<l.length):=⟨fun hi=>⟨h.h.1 _,fun j u hu=>by
 have hk:j<s:=by rw[← h.h.1 (l.getD 0 default)];exact(List.getElem?_eq_some_iff.1 hu).1
 have:=flat_at (e:=e) l 0 j hi hk
 rw[Nat.zero_mul]at this
 rw[this];exact hu⟩⟩
end
section
variable {P:Program} {w0:World} {W:Nat→Prop} {H:List HE}
end
theorem correct_tells{s:NavS}{c:Frm}(h:correctN s=some c):c.kind=6∧s.x+c.a=(meanN s.g).1∧s.y+c.b=(meanN s.g).2∧fits30 c.a∧fits30 c.b:=by
 unfold correctN at h
 dsimp only at h
 split at h
 ·rename_i hc
  injection h with h
  subst h
  exact⟨rfl,by show s.x+((meanN s.g).1-s.x)=_;omega,by show s.y+((meanN s.g).2-s.y)=_;omega,hc.2.2.2.2.1,hc.2.2.2.2.2.1⟩
 ·cases h
theorem tells_in{s:NavS}{k:Nat}(h:NavOk s k)(hm:s.mode=2){c:Frm}(hc:correctN s=some c):(s.g.x≤s.x+c.a∧s.x+c.a≤s.g.x+(s.g.w-1)*s.g.st)∧(s.g.y≤s.y+c.b∧s.y+c.b≤s.g.y+(s.g.h-1)*s.g.st):=by
 obtain⟨-,e1,e2,-⟩:=correct_tells hc
 rw[e1,e2]
 exact mean_in (h.g (by rw[hm];rfl)).1
attribute [local irreducible] OJ J HdJ Code.wpIn wpListIn Oper.wpIn bodyPost CallsIn Does
theorem navtells_law(a:Int)(ha:InR .u8 a)(b:Int)(hb:InR .u8 b)(A:Option Addr)(c:Nat)(z:List Int){w:World}(hr:RoA w (blocks []) A z.length c 1 (ints .i16 z))(hz:∀x∈z,InR .i16 x)(cf:Cnf)(x:Int)(hx:InR .i64 x)(y:Int)(hy:InR .i64 y)(Al:Option Addr)(cl:Nat)(l:List Frm)(hrl:RoA w (blocks []) Al l.length cl 6 (flat frmE l))(hl:∀p∈l,p.ok):
  Does Tryz.prog 4 [.int .u8 a,.int .u8 b,.slice A z.length c,.agg (cnfE cf).toArray,.agg #[.int .i64 x,.int .i64 y],.slice Al l.length cl] [] w (fun v _=>v=.bool true):=by
 have iW:CV Tryz.prog 9 [] (.bool true) True:=⟨fun _ w=>works27 w⟩
 have iLt:=light_cv A z.length c Al l.length cl
 have iCk:=navcheck_cv cf
 refine does_of Tryz.func4 rfl Tryz.ntmps4 rfl ⟨by simp,.nil⟩ (fun n=>?_)
 simp only[slots]
 by_cases hL:1500<z.length∨60<l.length
 ·rw[if_pos hL]at iLt
  refine z_tas
  exact j_out1 rfl rfl (.nil _) rfl
 rw[if_neg hL]at iLt
 by_cases hC:cnfC cf=0
 rotate_left
 ·have iN:∀w0 W H t u a b,MS Tryz.prog w0 W H (.binOp .neq t a b u) [.int .i64 (cnfC cf),.int .i64 0] (.bool true) True:=fun _ _ _ _ _ _ _=>msM inferInstance trivial (congrArg Value.bool (by simpa using hC))
  refine z_tas
  exact j_out1 rfl rfl (.nil _) rfl
 rw[hC]at iCk
 refine z_tas
 rename_i b9 b10
 refine lf rfl rfl rfl (S:=[]) (fun w hw ho=>made27_any a b ha hb A c z cf hC x y ⟨hx,hy⟩ w ⟨hr.h.go hw (Split.nil _)⟩ hz (by omega)) ?_
 rintro v S' ⟨g,s0,a0,T,W,H,f,Af,cfl,rfl,rfl,hI,hs0⟩
 have hm0:s0.modes.length=0:=by rcases hs0 with rfl|rfl<;>rfl
 clear hs0
 generalize chartB W H 30 0 0 f=ys at *
 refine j_swapT ?_
 simp only[List.cons_append,List.nil_append]
 refine z_tas
 refine c_loop (X:=Nat×NavS×NvA×List DedX×Plc×Plc×List HE) (fun q=>q.1≤l.length∧NvI ys f q.1 (6000000*(q.1:Int)) q.2.1 q.2.2.1 q.2.2.2.1 q.2.2.2.2.1 q.2.2.2.2.2.1 q.2.2.2.2.2.2)
  (fun q=>[(5,.slice Al l.length cl),(13,.pointer (some ⟨g,0,none⟩)),(16,.int .i64 q.1)])
  (fun q=>NvH g q.2.1 q.2.2.1 q.2.2.2.1 q.2.2.2.2.1 q.2.2.2.2.2.1 q.2.2.2.2.2.2) (fun q=>l.length-q.1) (0,s0,a0,[],(none,0,[]),(none,0,[]),T) ⟨Nat.zero_le _,hI⟩ ⟨rfl,rfl,rfl,trivial⟩ (Sub.appT (S:=[_,_,_,_,_,_]) (H:=[_,_,_,_,_,_,_,_,_]) T (Sub.cons (.there _ (.there _ (.there _ (.here _ _)))) (Sub.cons (.there _ (.there _ (.there _ (.here _ _)))) (Sub.cons (.there _ (.there _ (.there _ (.here _ _)))) (Sub.cons (.there _ (.there _ (.there _ (.here _ _)))) (Sub.cons (.there _ (.there _ (.there _ (.here _ _)))) (Sub.cons (.there _ (.there _ (.there _ (.here _ _)))) (Sub.nil _)))))))) ?_
 rintro⟨i,s,a,ds,x1,x2,T⟩ ⟨hi,hI⟩
 dsimp only at hi hI ⊢
 rcases Nat.lt_or_ge i l.length with h|h
 rotate_left
 ·refine z_tas
  exact j_out1 (S':=[]) rfl rfl (.nil _) rfl
 obtain⟨bL,oL,rfl,hLr⟩:=hrl.at_ (by omega:0<l.length)
 have hfok:(l.getD i default).ok:=by
  rw[List.getD_eq_getElem?_getD,List.getElem?_eq_getElem h]
  exact hl _ (List.getElem_mem h)
 obtain⟨-,htl⟩:=takeN_step (W:=wY ys) (H:=hY ys) (f:=f) s (l.getD i default)
 have hTk:=fun w ho=>take_t ys f g i s a ds x1 x2 T (l.getD i default) (6000000*(i:Int)) w ho hI hfok (by omega) (by omega)
 generalize takeN (wY ys) (hY ys) f s (l.getD i default)=tr at *
 obtain⟨s2,out⟩:=tr
 dsimp only at htl hTk
 refine z_tas
 refine lfn (S:=NvH g s a ds x1 x2 T) rfl rfl (Split.preT _ []) rfl (fun w hw ho=>hTk w ho) ?_
 rintro v S' ⟨So,a2,ds2,y1,y2,T2,⟨A5,c5,rfl,rfl⟩,rfl,hI2⟩
 dsimp only at hI2 ⊢
 simp only[List.cons_append,List.nil_append,List.append_nil]
 have hL2:=hI2.ok.nvl
 have hN2:NvI ys f (i+1) (6000000*((i+1:Nat):Int)) s2 a2 ds2 y1 y2 T2:=⟨hI2.ok,hI2.near,hI2.dl,hI2.g,hI2.n,hI2.ca.mono rfl (by omega)⟩
 rcases htl with ho|ho | ⟨cc2,ho,hm2,hf2,hc2⟩
 ·have hol:out.length=0:=by rw[ho];rfl
  refine z_tas
  refine c_rounds 2 ?_
  refine z_tas
  all_goals try (exfalso;omega)
  all_goals exact c_round (i+1,s2,a2,ds2,y1,y2,T2) ⟨h,hN2⟩ (by show l.length-(i+1)<l.length-i;omega) ⟨rfl,rfl,rfl,trivial⟩ (Sub.appT (S:=[_,_,_,_,_,_]) (H:=[_,_,_,_,_,_,_]) T2 (Sub.cons (.there _ (.here _ _)) (Sub.cons (.there _ (.here _ _)) (Sub.cons (.there _ (.here _ _)) (Sub.cons (.there _ (.here _ _)) (Sub.cons (.there _ (.here _ _)) (Sub.cons (.there _ (.here _ _)) (Sub.nil _))))))))
 ·have hol:out.length=1:=by rw[ho];rfl
  have iK0:∀w0 W H t u a b,MS Tryz.prog w0 W H (.binOp .eql t a b u) [.int .i64 (out.getD 0 default).kind,.int .i64 7] (.bool true) True:=fun _ _ _ _ _ _ _=>msM inferInstance trivial (by rw[ho];rfl)
  refine j_opn (A:=A5) (m:=out.length) (cc:=c5) (by omega) (fun ga hga=>?_)
  subst hga
  refine z_tas
  refine c_rounds 3 ?_
  refine z_tas
  all_goals try (exfalso;omega)
  all_goals exact c_round (i+1,s2,a2,ds2,y1,y2,T2) ⟨h,hN2⟩ (by show l.length-(i+1)<l.length-i;omega) ⟨rfl,rfl,rfl,trivial⟩ (Sub.appT (S:=[_,_,_,_,_,_]) (H:=[_,_,_,_,_,_,_,_]) T2 (Sub.cons (.there _ (.there _ (.here _ _))) (Sub.cons (.there _ (.there _ (.here _ _))) (Sub.cons (.there _ (.there _ (.here _ _))) (Sub.cons (.there _ (.there _ (.here _ _))) (Sub.cons (.there _ (.there _ (.here _ _))) (Sub.cons (.there _ (.there _ (.here _ _))) (Sub.nil _))))))))
 ·have hol:out.length=2:=by rw[ho];rfl
  have hho:holdsN s2.mode=true:=by rw[hm2];rfl
  obtain⟨hgk,hgf⟩:=hI2.ok.g hho
  obtain⟨k6,e1,e2,fa,fb⟩:=correct_tells hc2
  have hin:=tells_in hI2.ok hm2 hc2
  have hnr:=hI2.near (by rw[hm2];decide)
  have g0:(out.getD 0 default).kind=7:=by rw[ho];rfl
  have g1:out.getD 1 default=cc2:=by rw[ho];rfl
  have iK1:∀w0 W H t u a b,MS Tryz.prog w0 W H (.binOp .eql t a b u) [.int .i64 (out.getD 0 default).kind,.int .i64 7] (.bool true) True:=fun _ _ _ _ _ _ _=>msM inferInstance trivial (by rw[g0];rfl)
  have iK2:∀w0 W H t u a b,MS Tryz.prog w0 W H (.binOp .eql t a b u) [.int .i64 (out.getD 1 default).kind,.int .i64 7] (.bool false) True:=fun _ _ _ _ _ _ _=>msM inferInstance trivial (by rw[g1,k6];rfl)
  have iK3:∀w0 W H t u a b,MS Tryz.prog w0 W H (.binOp .neq t a b u) [.int .i64 (out.getD 1 default).kind,.int .i64 6] (.bool false) True:=fun _ _ _ _ _ _ _=>msM inferInstance trivial (by rw[g1,k6];rfl)
  have iK4:∀w0 W H t u a b,MS Tryz.prog w0 W H (.binOp .neq t a b u) [.int .i64 s2.mode,.int .i64 2] (.bool false) True:=fun _ _ _ _ _ _ _=>msM inferInstance trivial (congrArg Value.bool (by simp[hm2]))
  have iK5:∀w0 W H t u a b,MS Tryz.prog w0 W H (.binOp .neq t a b u) [.int .i32 (flagsN s2),.int .i32 0] (.bool false) True:=fun _ _ _ _ _ _ _=>msM inferInstance trivial (congrArg Value.bool (by simp[hf2]))
  refine j_opn (A:=A5) (m:=out.length) (cc:=c5) (by omega) (fun ga hga=>?_)
  subst hga
  refine z_tas
  refine c_rounds 4 ?_
  refine z_tas
  have iK6:∀w0 W H t u a b,MS Tryz.prog w0 W H (.binOp .neq t a b u) [.int .i64 (0+1),.int .i64 1] (.bool false) True:=fun _ _ _ _ _ _ _=>msM inferInstance trivial rfl
  have hG:=fun w ho=>gridat_any g s2 a2 w ho hL2
  rw[hho,if_pos rfl]at hG
  have hFl:=fun w ho hr=>flags_any g (i+1) s2 a2 w ho hI2.ok (by omega) hr
  refine lf rfl rfl rfl (S:=[.blk g 109 (navE s2 a2)]) (fun w hw ho=>hG w ho) ?_
  rintro v S' ⟨rfl,rfl⟩
  refine z_tas
  refine lf rfl rfl rfl (S:=[.blk g 109 (navE s2 a2)]) (fun w hw ho=>mode_any g s2 a2 w ho hL2) ?_
  rintro v S' ⟨rfl,rfl⟩
  refine z_tas
  refine lf rfl rfl rfl (S:=[.blk g 109 (navE s2 a2)]) (fun w hw ho=>hFl w ho (In3.ro (y:=(a2.Ag,a2.cg,s2.g.p)) hI2.g hw Split.au (by refine z_hs) (by refine z_hs))) ?_
  rintro v S' ⟨rfl,rfl⟩
  refine z_tas
  rename_i b19 b20
  have g2:out.getD (0+1) default=cc2:=g1
  have hA:fits30 (out.getD (0+1) default).a:=by rw[g2];exact fa
  have hB:fits30 (out.getD (0+1) default).b:=by rw[g2];exact fb
  have hxy:=of_decide_eq_true hnr
  unfold fits30 at hA hB
  have hi1:(s2.g.x≤s2.x+(out.getD (0+1) default).a∧s2.x+(out.getD (0+1) default).a≤s2.g.x+(s2.g.w-1)*s2.g.st)∧(s2.g.y≤s2.y+(out.getD (0+1) default).b∧s2.y+(out.getD (0+1) default).b≤s2.g.y+(s2.g.h-1)*s2.g.st):=by rw[g2];exact hin
  obtain⟨⟨hw1,hh1,hs1⟩,-,-⟩:=hgk
  unfold FarG at hgf
  have mw:=mul_in (A:=63) (B:=4096) (show 0≤s2.g.w-1∧s2.g.w-1≤63 by omega) (show 0≤s2.g.st∧s2.g.st≤4096 by omega)
  have mh:=mul_in (A:=63) (B:=4096) (show 0≤s2.g.h-1∧s2.g.h-1≤63 by omega) (show 0≤s2.g.st∧s2.g.st≤4096 by omega)
  have hi60:i<61:=by omega
  push_cast at hgf
  have iB0:∀w0 W H t u a b,MS Tryz.prog w0 W H (.binOp .lss t a b u) [.int .i64 (s2.x+(out.getD (0+1) default).a),.int .i64 s2.g.x] (.bool false) True:=fun _ _ _ _ _ _ _=>msM inferInstance trivial (congrArg Value.bool (decide_eq_false (by omega)))
  have iB1:∀w0 W H t u a b,MS Tryz.prog w0 W H (.binOp .gtr t a b u) [.int .i64 (s2.x+(out.getD (0+1) default).a),.int .i64 (s2.g.x+(s2.g.w-1)*s2.g.st)] (.bool false) True:=fun _ _ _ _ _ _ _=>msM inferInstance trivial (congrArg Value.bool (decide_eq_false (by omega)))
  have iB2:∀w0 W H t u a b,MS Tryz.prog w0 W H (.binOp .lss t a b u) [.int .i64 (s2.y+(out.getD (0+1) default).b),.int .i64 s2.g.y] (.bool false) True:=fun _ _ _ _ _ _ _=>msM inferInstance trivial (congrArg Value.bool (decide_eq_false (by omega)))
  have iB3:∀w0 W H t u a b,MS Tryz.prog w0 W H (.binOp .gtr t a b u) [.int .i64 (s2.y+(out.getD (0+1) default).b),.int .i64 (s2.g.y+(s2.g.h-1)*s2.g.st)] (.bool false) True:=fun _ _ _ _ _ _ _=>msM inferInstance trivial (congrArg Value.bool (decide_eq_false (by omega)))
  refine c_dvL [.blk g 109 (navE s2 a2),.blk b19 50 (frmE (out.getD (0+1) default))] (0::1::2::3::4::5::6::7::8::9::10::11::12::13::14::15::[]) (.cons (.here _ _) (.cons (.there _ (.here _ _)) (.nil _))) ?_
  intro _
  all_goals refine z_gvx
  all_goals refine lf rfl rfl rfl (S:=[.blk g 109 (navE s2 a2)]) (fun w hw ho=>insat_any g s2 a2 w ho hL2) ?_
  all_goals rintro v S' ⟨rfl,rfl⟩
  all_goals refine z_gvx
  all_goals try (refine lf rfl rfl rfl (S:=[.blk g 109 (navE s2 a2)]) (fun w hw ho=>insat_any g s2 a2 w ho hL2) ?_;rintro v S' ⟨rfl,rfl⟩;refine z_gvx)
  all_goals try (exfalso;omega)
  all_goals exact c_round (i+1,s2,a2,ds2,y1,y2,T2) ⟨h,hN2⟩ (by show l.length-(i+1)<l.length-i;omega) ⟨rfl,rfl,rfl,trivial⟩ (Sub.appT (S:=[_,_,_,_,_,_]) (H:=[_,_,_,_,_,_,_,_,_,_]) T2 (Sub.cons (.there _ (.there _ (.there _ (.there _ (.there _ (.here _ _)))))) (Sub.cons (.there _ (.there _ (.there _ (.there _ (.there _ (.here _ _)))))) (Sub.cons (.here _ _) (Sub.cons (.there _ (.there _ (.there _ (.there _ (.here _ _))))) (Sub.cons (.there _ (.there _ (.there _ (.there _ (.here _ _))))) (Sub.cons (.there _ (.there _ (.there _ (.there _ (.here _ _))))) (Sub.nil _))))))))
open Go.ChangeAt Go.ChangeShapes Go.Deep Go.Joins Go.WideShapes
set_option maxRecDepth 100000 in
theorem lifted(os:Os)(started:os.Started)(H:Type)(enc:TypeId×Value→H):
  ReturnsInHanded {} Tryz.checked os 4 .any (Rows.navTellsSpec.pre6 enc Tryz.prog Tryz.f4 Rows.navTellsRow.domain false) (Rows.navTellsSpec.post enc Tryz.prog Tryz.f4 false true false false):=by
 refine returnsInHanded_of_change (C:=Tryz.checked) own started (by kernel_rfl) Tryz.func4
  (ChangeSpec.witness6 (enc:=enc) (C:=Tryz.checked) false ⟨#[],#[.int .u8 0,.int .u8 0,.slice none 0 0,.agg #[.int .u32 0,.int .i64 0,.int .i64 0,.int .i64 0,.int .i64 0,.int .i64 0,.int .i64 0,.int .i64 0,.int .i64 0,.int .i64 0,.int .i64 0,.int .i64 0,.int .i64 0,.int .i64 0,.int .i64 0,.int .i64 0,.int .i64 0,.int .i64 0,.int .i64 0,.int .i64 0,.int .i64 0,.int .i64 0,.int .i64 0],.agg #[.int .i64 0,.int .i64 0],.slice none 0 0],[]⟩ 8 (by kernel_rfl) (by kernel_rfl) (by kernel_rfl) (by kernel_rfl)) ?_
 intro W base args ds gs before hval0 hW hcnd _
 have hval:∀(j:Nat) t v,Tryz.f4.params[j]? = some t→args[j]? = some v→Value.okWide Tryz.prog W .any base t v:=hval0
 have hW':=hW
 obtain⟨p,q,hA0,hV,rfl,hfz,hnd⟩:=hW
 have hA:DataW.TrodAll enc Tryz.prog W 0 (fun _=>true) true Tryz.f4.params.toList args.toList ds p:=hA0
 rw[Tryz.params4]at hA hval
 obtain⟨v0,v1,v2,v3,v4,v5,d0,d1,d2,d3,d4,d5,p0,p1,p2,p3,p4,p5,rfl,rfl,rfl,h0,h1,h2,h3,h4,h5⟩:=trodAll_six hA
 clear hA0 hval0
 obtain⟨a,rfl,r0⟩:=gate_int Tryz.underlying5 (hval 0 _ _ rfl rfl) h0
 obtain⟨b,rfl,r1⟩:=gate_int Tryz.underlying5 (hval 1 _ _ rfl rfl) h1
 obtain⟨A2,c2,z,rfl,q2,r2⟩:=gate_ints Tryz.underlying22 Tryz.underlying86 (by kernel_rfl) (hval 2 _ _ rfl rfl) h2
 obtain⟨_,rfl,q3⟩:=gate_row Tryz.underlying31 cells_conf (hval 3 _ _ rfl rfl) h3
 obtain⟨cf,rfl⟩:=un_conf _ q3
 obtain⟨_,rfl,sx,_,rfl,rx4,sy,_,rfl,ry4,rfl⟩:=gate_row Tryz.underlying33 cells_spot (hval 4 _ _ rfl rfl) h4
 obtain⟨A5,c5,l,rfl,q5,r5⟩:=gate_rows (en:=frmE) Tryz.underlying34 cells_frame rfl un_frame (hval 5 _ _ rfl rfl) h5
 refine(below_of (navtells_law a r0 b r1 A2 c2 z q2 r2 cf sx rx4 sy ry4 A5 c5 l q5 r5 (w:=W))).mono fun e W' ⟨he,hb⟩=>?_
 subst he
 exact⟨_,rfl,gate_post (tb:=4) laidOut Tryz.underlying4 hW' rfl rfl (fun es h=>by
  have h':es.length=6:=h
  match es,h' with
  | [_,_,_,_,_,_],_=>rfl) (of_decide_eq_true (by kernel_rfl)) hb⟩
theorem holds:Rows.NavTellsSaid :=
 OpenClaim.holds_of_wide 4 Tryz.f4 rfl rfl rfl rfl rfl rfl rfl ⟨rfl,rfl,rfl,rfl,rfl⟩ rfl rfl rfl rfl rfl (by kernel_rfl) Tryz.func4 (by kernel_rfl)
  (of_decide_eq_true (by kernel_rfl)) (by unfold Func.isWrapper;first|(rw[if_pos (by decide +kernel)];kernel_rfl)|(rw[if_neg (by decide +kernel)];exact⟨rfl,rfl⟩))
  (fun os started H enc _=>lifted os started H enc)
#print axioms holds
end Go.Proofs.YthajpemlpmlefaaGreat
