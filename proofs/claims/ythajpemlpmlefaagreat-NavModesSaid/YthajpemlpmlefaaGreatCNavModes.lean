/- The modes of a voyage are those of the automaton. No condition. -/
import Derived.Carry
import Derived.Test.YthajpemlpmlefaaGreatP53
set_option maxHeartbeats 512000000
set_option maxRecDepth 4000
set_option linter.unusedVariables false
set_option linter.unusedSimpArgs false
namespace Go.Proofs.YthajpemlpmlefaaGreat
open Go.RowKit
attribute [local irreducible] OJ J HdJ Code.wpIn wpListIn Oper.wpIn bodyPost CallsIn Does
theorem navmodes_law(a:Int)(ha:InR .u8 a)(b:Int)(hb:InR .u8 b)(A:Option Addr)(c:Nat)(z:List Int){w:World}(hr:RoA w (blocks []) A z.length c 1 (ints .i16 z))(hz:∀x∈z,InR .i16 x)(cf:Cnf)(x:Int)(hx:InR .i64 x)(y:Int)(hy:InR .i64 y)(Al:Option Addr)(cl:Nat)(l:List Frm)(hrl:RoA w (blocks []) Al l.length cl 6 (flat frmE l))(hl:∀p∈l,p.ok):
  Does Tryz.prog 3 [.int .u8 a,.int .u8 b,.slice A z.length c,.agg (cnfE cf).toArray,.agg #[.int .i64 x,.int .i64 y],.slice Al l.length cl] [] w (fun v _=>v=.bool true):=by
 have iW:CV Tryz.prog 9 [] (.bool true) True:=⟨fun _ w=>works27 w⟩
 have iLt:=light_cv A z.length c Al l.length cl
 have iCk:=navcheck_cv cf
 refine does_of Tryz.func3 rfl Tryz.ntmps3 rfl ⟨by simp,.nil⟩ (fun n=>?_)
 simp only[slots]
 by_cases hL:1500<z.length∨60<l.length
 ·rw[if_pos hL]at iLt
  refine z_tas
  exact j_out1 rfl rfl (.nil _) rfl
 rw[if_neg hL]at iLt
 by_cases hC:cnfC cf=0
 rotate_left
 ·have iN:∀w0 W H t u a b,MS Tryz.prog w0 W H (.binOp .neq t a b u) [.int .i64 (cnfC cf),.int .i64 0] (.bool true) True:=fun _ _ _ _ _ _ _=>msM inferInstance trivial (congrArg Value.bool (by simpa using hC))
  refine z_tas
  exact j_out1 rfl rfl (.nil _) rfl
 rw[hC]at iCk
 refine z_tas
 rename_i b9 b10
 refine lf rfl rfl rfl (S:=[]) (fun w hw ho=>made27_any a b ha hb A c z cf hC x y ⟨hx,hy⟩ w ⟨hr.h.go hw (Split.nil _)⟩ hz (by omega)) ?_
 rintro v S' ⟨g,s0,a0,T,W,H,f,Af,cfl,rfl,rfl,hI,hs0⟩
 have hm0:s0.modes.length=0:=by rcases hs0 with rfl|rfl<;>rfl
 clear hs0
 generalize chartB W H 30 0 0 f=ys at *
 refine j_swapT ?_
 simp only[List.cons_append,List.nil_append]
 refine z_tas
 refine lf rfl rfl rfl (S:=[.blk g 109 (navE s0 a0)]) (fun w hw ho=>mode_any g s0 a0 w ho hI.ok.nvl) ?_
 rintro v S' ⟨rfl,rfl⟩
 refine z_tas
 refine c_loop (X:=Nat×NavS×NvA×List DedX×Plc×Plc×List HE) (fun q=>q.1≤l.length∧NvI ys f q.1 (6000000*(q.1:Int)) q.2.1 q.2.2.1 q.2.2.2.1 q.2.2.2.2.1 q.2.2.2.2.2.1 q.2.2.2.2.2.2)
  (fun q=>[(5,.slice Al l.length cl),(13,.pointer (some ⟨g,0,none⟩)),(16,.int .i64 q.2.1.mode),(17,.int .i64 (q.2.1.modes.length:Nat)),(18,.int .i64 q.1)])
  (fun q=>NvH g q.2.1 q.2.2.1 q.2.2.2.1 q.2.2.2.2.1 q.2.2.2.2.2.1 q.2.2.2.2.2.2) (fun q=>l.length-q.1) (0,s0,a0,[],(none,0,[]),(none,0,[]),T) ⟨Nat.zero_le _,hI⟩ ⟨rfl,rfl,rfl,by simp[look,hm0],rfl,trivial⟩ (Sub.appT (S:=[_,_,_,_,_,_]) (H:=[_,_,_,_,_,_,_,_,_]) T (Sub.cons (.there _ (.there _ (.there _ (.there _ (.here _ _))))) (Sub.cons (.there _ (.there _ (.there _ (.there _ (.here _ _))))) (Sub.cons (.here _ _) (Sub.cons (.there _ (.there _ (.there _ (.here _ _)))) (Sub.cons (.there _ (.there _ (.there _ (.here _ _)))) (Sub.cons (.there _ (.there _ (.there _ (.here _ _)))) (Sub.nil _)))))))) ?_
 rintro⟨i,s,a,ds,x1,x2,T⟩ ⟨hi,hI⟩
 dsimp only at hi hI ⊢
 rcases Nat.lt_or_ge i l.length with h|h
 rotate_left
 ·refine z_tas
  exact j_out1 (S':=[]) rfl rfl (.nil _) rfl
 obtain⟨bL,oL,rfl,hLr⟩:=hrl.at_ (by omega:0<l.length)
 have hfok:(l.getD i default).ok:=by
  rw[List.getD_eq_getElem?_getD,List.getElem?_eq_getElem h]
  exact hl _ (List.getElem_mem h)
 obtain⟨hst,htl⟩:=takeN_step (W:=wY ys) (H:=hY ys) (f:=f) s (l.getD i default)
 have hTk:=fun w ho=>take_t ys f g i s a ds x1 x2 T (l.getD i default) (6000000*(i:Int)) w ho hI hfok (by omega) (by omega)
 generalize takeN (wY ys) (hY ys) f s (l.getD i default)=tr at *
 obtain⟨s2,out⟩:=tr
 dsimp only at hst htl hTk
 refine z_tas
 refine lfn (S:=NvH g s a ds x1 x2 T) rfl rfl (Split.preT _ []) rfl (fun w hw ho=>hTk w ho) ?_
 rintro v S' ⟨So,a2,ds2,y1,y2,T2,⟨A5,c5,rfl,rfl⟩,rfl,hI2⟩
 dsimp only at hI2 ⊢
 simp only[List.cons_append,List.nil_append,List.append_nil]
 have hL2:=hI2.ok.nvl
 have hlen:=hI2.ok.len
 have iNe:∀w0 W H t u a b,MS Tryz.prog w0 W H (.binOp .neq t a b u) [.int .i64 (s2.ins.length:Int),.int .i64 (s2.modes.length:Int)] (.bool false) True:=fun _ _ _ _ _ _ _=>msM inferInstance trivial (congrArg Value.bool (by rw[hlen.1];simp))
 refine z_tas
 refine lf rfl rfl rfl (S:=[.blk g 109 (navE s2 a2)]) (fun w hw ho=>inputs_any g s2 a2 w ho hL2 ⟨Ro.row hw Split.au (by refine z_hs)⟩ ⟨Ro.row hw Split.au (by refine z_hs)⟩ (by omega)) ?_
 rintro v S' ⟨A6,c6,A7,c7,rfl,rfl⟩
 refine z_tas
 refine c_joinL (X:=Unit) (fun _=>True) (fun _=>[(5,.slice (some ⟨bL,oL,none⟩) l.length cl),(13,.pointer (some ⟨g,0,none⟩)),(16,.int .i64 s2.mode),(17,.int .i64 (s2.modes.length:Nat)),(18,.int .i64 i),(19,.slice A5 out.length c5)]) (fun _=>.row (.slice A5 out.length c5) 50 6 out.length (flat frmE out)::NvH g s2 a2 ds2 y1 y2 T2) ?_ ?_
 ·rcases hst with⟨e1,e2,e3⟩ | ⟨ip,e1,e2,e3⟩
  ·refine c_rounds 2 ?_
   have e4:s2.modes.length=s.modes.length:=by rw[e2]
   rw[← e3,← e4]
   refine z_tas
   all_goals try (exfalso;omega)
   exact c_round () trivial trivial ⟨rfl,rfl,rfl,rfl,rfl,rfl,trivial⟩ (Sub.appT (S:=[_,_,_,_,_,_,_]) (H:=[_,_,_,_,_,_,_,_,_]) T2 (Sub.cons (.there _ (.there _ (.there _ (.here _ _)))) (Sub.cons (.there _ (.there _ (.there _ (.here _ _)))) (Sub.cons (.there _ (.there _ (.there _ (.here _ _)))) (Sub.cons (.there _ (.there _ (.here _ _))) (Sub.cons (.there _ (.there _ (.here _ _))) (Sub.cons (.there _ (.there _ (.here _ _))) (Sub.cons (.there _ (.there _ (.here _ _))) (Sub.nil _)))))))))
  ·refine c_rounds 3 ?_
   have e4:s2.modes.length=s.modes.length+1:=by rw[e2];simp
   have e5:s2.ins.getD s.modes.length default=ip:=by
    have:s.modes.length=s.ins.length:=by have:=hI.ok.len.1;omega
    rw[e1,this,List.getD_eq_getElem?_getD,List.getElem?_append_right (Nat.le_refl _),Nat.sub_self]
    rfl
   have e6:s2.modes.getD s.modes.length 0=(nextN s.mode ip).1:=by
    rw[e2,List.getD_eq_getElem?_getD,List.getElem?_append_right (Nat.le_refl _),Nat.sub_self]
    rfl
   have iNq:∀w0 W H t u a b,MS Tryz.prog w0 W H (.binOp .neq t a b u) [.int .i64 (s2.modes.getD s.modes.length 0),.int .i64 (nextN s.mode (s2.ins.getD s.modes.length default)).1] (.bool false) True:=fun _ _ _ _ _ _ _=>msM inferInstance trivial (congrArg Value.bool (by rw[e5,e6];simp))
   refine z_tas
   all_goals try (exfalso;omega)
   exact c_round () trivial trivial ⟨rfl,rfl,by rw[e3,← e5];rfl,by rw[e4];simp[look],rfl,rfl,trivial⟩ (Sub.appT (S:=[_,_,_,_,_,_,_]) (H:=[_,_,_,_,_,_,_,_,_]) T2 (Sub.cons (.there _ (.there _ (.there _ (.here _ _)))) (Sub.cons (.there _ (.there _ (.there _ (.here _ _)))) (Sub.cons (.there _ (.there _ (.there _ (.here _ _)))) (Sub.cons (.there _ (.there _ (.here _ _))) (Sub.cons (.there _ (.there _ (.here _ _))) (Sub.cons (.there _ (.there _ (.here _ _))) (Sub.cons (.there _ (.there _ (.here _ _))) (Sub.nil _)))))))))
 ·rintro _ -
  have hmo:=hI2.ok.mode
  have hFl:=fun w ho hr=>flags_any g (i+1) s2 a2 w ho hI2.ok (by omega) hr
  have iM1:∀w0 W H t u a b,MS Tryz.prog w0 W H (.binOp .neq t a b u) [.int .i64 s2.mode,.int .i64 s2.mode] (.bool false) True:=fun _ _ _ _ _ _ _=>msM inferInstance trivial (congrArg Value.bool (by simp))
  have iM2:∀w0 W H t u a b,MS Tryz.prog w0 W H (.binOp .neq t a b u) [.int .i32 s2.mode,.int .i32 s2.mode] (.bool false) True:=fun _ _ _ _ _ _ _=>msM inferInstance trivial (congrArg Value.bool (by simp))
  have iM3:∀w0 W H t u a b,MS Tryz.prog w0 W H (.binOp .neq t a b u) [.int .i32 (flagsN s2),.int .i32 (flagsN s2)] (.bool false) True:=fun _ _ _ _ _ _ _=>msM inferInstance trivial (congrArg Value.bool (by simp))
  have iL1:∀w0 W H t u a b,LV Tryz.prog w0 W H (.binOp .neq t a b u) [.int .i64 s2.mode,.int .i64 s2.mode] (.bool false) True:=fun _ _ _ _ _ _ _=>lvM inferInstance trivial (congrArg Value.bool (by simp))
  have iL2:∀w0 W H t u a b,LV Tryz.prog w0 W H (.binOp .neq t a b u) [.int .i32 s2.mode,.int .i32 s2.mode] (.bool false) True:=fun _ _ _ _ _ _ _=>lvM inferInstance trivial (congrArg Value.bool (by simp))
  have iL3:∀w0 W H t u a b,LV Tryz.prog w0 W H (.binOp .neq t a b u) [.int .i32 (flagsN s2),.int .i32 (flagsN s2)] (.bool false) True:=fun _ _ _ _ _ _ _=>lvM inferInstance trivial (congrArg Value.bool (by simp))
  rcases htl with rfl|rfl | ⟨cc2,rfl,-⟩
  ·refine j_perm (H':=.row (.slice A5 0 c5) 50 6 0 []::NvH g s2 a2 ds2 y1 y2 T2) (.refl _) ?_
   have hN2:NvI ys f (i+1) (6000000*((i+1:Nat):Int)) s2 a2 ds2 y1 y2 T2:=⟨hI2.ok,hI2.near,hI2.dl,hI2.g,hI2.n,hI2.ca.mono rfl (by omega)⟩
   refine c_seq ?_
   refine c_dvL [.blk g 109 (navE s2 a2)] (0::1::2::3::4::5::6::7::8::9::10::11::12::13::14::15::16::17::18::19::20::21::22::23::24::25::26::27::28::29::30::31::32::33::34::35::36::37::38::[]) (.cons (.there _ (.there _ (.there _ (.here _ _)))) (.nil _)) ?_
   intro _
   all_goals refine z_gvy
   all_goals refine lf rfl rfl rfl (S:=[.blk g 109 (navE s2 a2)]) (fun w hw ho=>mode_any g s2 a2 w ho hL2) ?_
   all_goals rintro v S' ⟨rfl,rfl⟩
   all_goals refine z_gvy
   all_goals exact c_round (i+1,s2,a2,ds2,y1,y2,T2) ⟨h,hN2⟩ (by show l.length-(i+1)<l.length-i;omega) ⟨rfl,rfl,rfl,rfl,by simp[look],trivial⟩ (Sub.appT (S:=[_,_,_,_,_,_]) (H:=[_,_,_,_,_,_,_]) T2 (Sub.cons (.there _ (.there _ (.here _ _))) (Sub.cons (.there _ (.there _ (.here _ _))) (Sub.cons (.here _ _) (Sub.cons (.there _ (.here _ _)) (Sub.cons (.there _ (.here _ _)) (Sub.cons (.there _ (.here _ _)) (Sub.nil _))))))))
  ·simp only[List.length_cons,List.length_nil,Nat.zero_add]
   have iKL0:∀w0 W H t u a b,LV Tryz.prog w0 W H (.binOp .gtr t a b u) [.int .i64 ((1:Nat):Int),.int .i64 2] (.bool false) True:=fun _ _ _ _ _ _ _=>lvM inferInstance trivial rfl
   have iKL1:∀w0 W H t u a b,LV Tryz.prog w0 W H (.binOp .gtr t a b u) [.int .i64 ((1:Nat):Int),.int .i64 0] (.bool true) True:=fun _ _ _ _ _ _ _=>lvM inferInstance trivial rfl
   have iKL2:∀w0 W H t u a b,LV Tryz.prog w0 W H (.binOp .neq t a b u) [.int .i64 7,.int .i64 7] (.bool false) True:=fun _ _ _ _ _ _ _=>lvM inferInstance trivial rfl
   have iKM0:∀w0 W H t u a b,MS Tryz.prog w0 W H (.binOp .gtr t a b u) [.int .i64 ((1:Nat):Int),.int .i64 2] (.bool false) True:=fun _ _ _ _ _ _ _=>msM inferInstance trivial rfl
   have iKM1:∀w0 W H t u a b,MS Tryz.prog w0 W H (.binOp .gtr t a b u) [.int .i64 ((1:Nat):Int),.int .i64 0] (.bool true) True:=fun _ _ _ _ _ _ _=>msM inferInstance trivial rfl
   have iKM2:∀w0 W H t u a b,MS Tryz.prog w0 W H (.binOp .neq t a b u) [.int .i64 7,.int .i64 7] (.bool false) True:=fun _ _ _ _ _ _ _=>msM inferInstance trivial rfl
   refine j_perm (H':=.row (.slice A5 1 c5) 50 6 1 [.int .i64 7,.int .u16 s2.seq,.int .u32 s2.time,.int .i32 s2.mode,.int .i32 (flagsN s2),.int .i32 0]::NvH g s2 a2 ds2 y1 y2 T2) (.refl _) ?_
   have hN2:NvI ys f (i+1) (6000000*((i+1:Nat):Int)) s2 a2 ds2 y1 y2 T2:=⟨hI2.ok,hI2.near,hI2.dl,hI2.g,hI2.n,hI2.ca.mono rfl (by omega)⟩
   refine j_opn (A:=A5) (m:=1) (cc:=c5) (by decide) (fun ga hga=>?_)
   subst hga
   refine c_seq ?_
   refine c_dvL [.blk g 109 (navE s2 a2),.row (.slice (some ⟨ga,0,none⟩) 1 c5) 50 6 1 [.int .i64 7,.int .u16 s2.seq,.int .u32 s2.time,.int .i32 s2.mode,.int .i32 (flagsN s2),.int .i32 0]] (0::1::2::3::4::5::6::7::8::9::10::11::12::13::14::15::16::17::18::19::20::21::22::23::24::25::26::27::28::29::30::31::32::33::34::35::36::37::38::[]) (.cons (.there _ (.there _ (.there _ (.here _ _)))) (.cons (.here _ _) (.nil _))) ?_
   intro _
   all_goals refine z_gvy
   all_goals refine lf rfl rfl rfl (S:=[.blk g 109 (navE s2 a2)]) (fun w hw ho=>mode_any g s2 a2 w ho hL2) ?_
   all_goals rintro v S' ⟨rfl,rfl⟩
   all_goals refine z_gvy
   all_goals refine lf rfl rfl rfl (S:=[.blk g 109 (navE s2 a2)]) (fun w hw ho=>hFl w ho (In3.ro (y:=(a2.Ag,a2.cg,s2.g.p)) hI2.g hw Split.au (by refine z_hs) (by refine z_hs))) ?_
   all_goals rintro v S' ⟨rfl,rfl⟩
   all_goals refine z_gvy
   all_goals exact c_round (i+1,s2,a2,ds2,y1,y2,T2) ⟨h,hN2⟩ (by show l.length-(i+1)<l.length-i;omega) ⟨rfl,rfl,rfl,rfl,by simp[look],trivial⟩ (Sub.appT (S:=[_,_,_,_,_,_]) (H:=[_,_,_,_,_,_,_]) T2 (Sub.cons (.there _ (.there _ (.here _ _))) (Sub.cons (.there _ (.there _ (.here _ _))) (Sub.cons (.here _ _) (Sub.cons (.there _ (.here _ _)) (Sub.cons (.there _ (.here _ _)) (Sub.cons (.there _ (.here _ _)) (Sub.nil _))))))))
  ·simp only[List.length_cons,List.length_nil,Nat.zero_add]
   have iKL0:∀w0 W H t u a b,LV Tryz.prog w0 W H (.binOp .gtr t a b u) [.int .i64 ((2:Nat):Int),.int .i64 2] (.bool false) True:=fun _ _ _ _ _ _ _=>lvM inferInstance trivial rfl
   have iKL1:∀w0 W H t u a b,LV Tryz.prog w0 W H (.binOp .gtr t a b u) [.int .i64 ((2:Nat):Int),.int .i64 0] (.bool true) True:=fun _ _ _ _ _ _ _=>lvM inferInstance trivial rfl
   have iKL2:∀w0 W H t u a b,LV Tryz.prog w0 W H (.binOp .neq t a b u) [.int .i64 7,.int .i64 7] (.bool false) True:=fun _ _ _ _ _ _ _=>lvM inferInstance trivial rfl
   have iKM0:∀w0 W H t u a b,MS Tryz.prog w0 W H (.binOp .gtr t a b u) [.int .i64 ((2:Nat):Int),.int .i64 2] (.bool false) True:=fun _ _ _ _ _ _ _=>msM inferInstance trivial rfl
   have iKM1:∀w0 W H t u a b,MS Tryz.prog w0 W H (.binOp .gtr t a b u) [.int .i64 ((2:Nat):Int),.int .i64 0] (.bool true) True:=fun _ _ _ _ _ _ _=>msM inferInstance trivial rfl
   have iKM2:∀w0 W H t u a b,MS Tryz.prog w0 W H (.binOp .neq t a b u) [.int .i64 7,.int .i64 7] (.bool false) True:=fun _ _ _ _ _ _ _=>msM inferInstance trivial rfl
   refine j_perm (H':=.row (.slice A5 2 c5) 50 6 2 [.int .i64 7,.int .u16 s2.seq,.int .u32 s2.time,.int .i32 s2.mode,.int .i32 (flagsN s2),.int .i32 0,.int .i64 cc2.kind,.int .u16 cc2.seq,.int .u32 cc2.time,.int .i32 cc2.a,.int .i32 cc2.b,.int .i32 cc2.c]::NvH g s2 a2 ds2 y1 y2 T2) (.refl _) ?_
   have hN2:NvI ys f (i+1) (6000000*((i+1:Nat):Int)) s2 a2 ds2 y1 y2 T2:=⟨hI2.ok,hI2.near,hI2.dl,hI2.g,hI2.n,hI2.ca.mono rfl (by omega)⟩
   refine j_opn (A:=A5) (m:=2) (cc:=c5) (by decide) (fun ga hga=>?_)
   subst hga
   refine c_seq ?_
   refine c_dvL [.blk g 109 (navE s2 a2),.row (.slice (some ⟨ga,0,none⟩) 2 c5) 50 6 2 [.int .i64 7,.int .u16 s2.seq,.int .u32 s2.time,.int .i32 s2.mode,.int .i32 (flagsN s2),.int .i32 0,.int .i64 cc2.kind,.int .u16 cc2.seq,.int .u32 cc2.time,.int .i32 cc2.a,.int .i32 cc2.b,.int .i32 cc2.c]] (0::1::2::3::4::5::6::7::8::9::10::11::12::13::14::15::16::17::18::19::20::21::22::23::24::25::26::27::28::29::30::31::32::33::34::35::36::37::38::[]) (.cons (.there _ (.there _ (.there _ (.here _ _)))) (.cons (.here _ _) (.nil _))) ?_
   intro _
   all_goals refine z_gvy
   all_goals refine lf rfl rfl rfl (S:=[.blk g 109 (navE s2 a2)]) (fun w hw ho=>mode_any g s2 a2 w ho hL2) ?_
   all_goals rintro v S' ⟨rfl,rfl⟩
   all_goals refine z_gvy
   all_goals refine lf rfl rfl rfl (S:=[.blk g 109 (navE s2 a2)]) (fun w hw ho=>hFl w ho (In3.ro (y:=(a2.Ag,a2.cg,s2.g.p)) hI2.g hw Split.au (by refine z_hs) (by refine z_hs))) ?_
   all_goals rintro v S' ⟨rfl,rfl⟩
   all_goals refine z_gvy
   all_goals exact c_round (i+1,s2,a2,ds2,y1,y2,T2) ⟨h,hN2⟩ (by show l.length-(i+1)<l.length-i;omega) ⟨rfl,rfl,rfl,rfl,by simp[look],trivial⟩ (Sub.appT (S:=[_,_,_,_,_,_]) (H:=[_,_,_,_,_,_,_]) T2 (Sub.cons (.there _ (.there _ (.here _ _))) (Sub.cons (.there _ (.there _ (.here _ _))) (Sub.cons (.here _ _) (Sub.cons (.there _ (.here _ _)) (Sub.cons (.there _ (.here _ _)) (Sub.cons (.there _ (.here _ _)) (Sub.nil _))))))))
open Go.ChangeAt Go.ChangeShapes Go.Deep Go.Joins Go.WideShapes
set_option maxRecDepth 100000 in
theorem lifted(os:Os)(started:os.Started)(H:Type)(enc:TypeId×Value→H):
  ReturnsInHanded {} Tryz.checked os 3 .any (Rows.navModesSpec.pre6 enc Tryz.prog Tryz.f3 Rows.navModesRow.domain false) (Rows.navModesSpec.post enc Tryz.prog Tryz.f3 false true false false):=by
 refine returnsInHanded_of_change (C:=Tryz.checked) own started (by kernel_rfl) Tryz.func3
  (ChangeSpec.witness6 (enc:=enc) (C:=Tryz.checked) false ⟨#[],#[.int .u8 0,.int .u8 0,.slice none 0 0,.agg #[.int .u32 0,.int .i64 0,.int .i64 0,.int .i64 0,.int .i64 0,.int .i64 0,.int .i64 0,.int .i64 0,.int .i64 0,.int .i64 0,.int .i64 0,.int .i64 0,.int .i64 0,.int .i64 0,.int .i64 0,.int .i64 0,.int .i64 0,.int .i64 0,.int .i64 0,.int .i64 0,.int .i64 0,.int .i64 0,.int .i64 0],.agg #[.int .i64 0,.int .i64 0],.slice none 0 0],[]⟩ 8 (by kernel_rfl) (by kernel_rfl) (by kernel_rfl) (by kernel_rfl)) ?_
 intro W base args ds gs before hval0 hW hcnd _
 have hval:∀(j:Nat) t v,Tryz.f3.params[j]? = some t→args[j]? = some v→Value.okWide Tryz.prog W .any base t v:=hval0
 have hW':=hW
 obtain⟨p,q,hA0,hV,rfl,hfz,hnd⟩:=hW
 have hA:DataW.TrodAll enc Tryz.prog W 0 (fun _=>true) true Tryz.f3.params.toList args.toList ds p:=hA0
 rw[Tryz.params3]at hA hval
 obtain⟨v0,v1,v2,v3,v4,v5,d0,d1,d2,d3,d4,d5,p0,p1,p2,p3,p4,p5,rfl,rfl,rfl,h0,h1,h2,h3,h4,h5⟩:=trodAll_six hA
 clear hA0 hval0
 obtain⟨a,rfl,r0⟩:=gate_int Tryz.underlying5 (hval 0 _ _ rfl rfl) h0
 obtain⟨b,rfl,r1⟩:=gate_int Tryz.underlying5 (hval 1 _ _ rfl rfl) h1
 obtain⟨A2,c2,z,rfl,q2,r2⟩:=gate_ints Tryz.underlying22 Tryz.underlying86 (by kernel_rfl) (hval 2 _ _ rfl rfl) h2
 obtain⟨_,rfl,q3⟩:=gate_row Tryz.underlying31 cells_conf (hval 3 _ _ rfl rfl) h3
 obtain⟨cf,rfl⟩:=un_conf _ q3
 obtain⟨_,rfl,sx,_,rfl,rx4,sy,_,rfl,ry4,rfl⟩:=gate_row Tryz.underlying33 cells_spot (hval 4 _ _ rfl rfl) h4
 obtain⟨A5,c5,l,rfl,q5,r5⟩:=gate_rows (en:=frmE) Tryz.underlying34 cells_frame rfl un_frame (hval 5 _ _ rfl rfl) h5
 refine(below_of (navmodes_law a r0 b r1 A2 c2 z q2 r2 cf sx rx4 sy ry4 A5 c5 l q5 r5 (w:=W))).mono fun e W' ⟨he,hb⟩=>?_
 subst he
 exact⟨_,rfl,gate_post (tb:=4) laidOut Tryz.underlying4 hW' rfl rfl (fun es h=>by
  have h':es.length=6:=h
  match es,h' with
  | [_,_,_,_,_,_],_=>rfl) (of_decide_eq_true (by kernel_rfl)) hb⟩
theorem holds:Rows.NavModesSaid :=
 OpenClaim.holds_of_wide 3 Tryz.f3 rfl rfl rfl rfl rfl rfl rfl ⟨rfl,rfl,rfl,rfl,rfl⟩ rfl rfl rfl rfl rfl (by kernel_rfl) Tryz.func3 (by kernel_rfl)
  (of_decide_eq_true (by kernel_rfl)) (by unfold Func.isWrapper;first|(rw[if_pos (by decide +kernel)];kernel_rfl)|(rw[if_neg (by decide +kernel)];exact⟨rfl,rfl⟩))
  (fun os started H enc _=>lifted os started H enc)
#print axioms holds
end Go.Proofs.YthajpemlpmlefaaGreat
