import Derived.Test.YthajpemlpmlefaaGreatP45
import Derived.Test.YthajpemlpmlefaaGreatP46
set_option maxHeartbeats 512000000
set_option maxRecDepth 4000
set_option linter.unusedVariables false
set_option linter.unusedSimpArgs false
namespace Go.Proofs.YthajpemlpmlefaaGreat
open Go.RowKit
def GnR(g:Nat)(a:NvA)(p:List Int)(s':NavS)(S':List HE):Prop:=∃a2 ds2 R,(a2.ptr=a.ptr∧a2.An=a.An∧a2.cn=a.cn∧a2.Ai=a.Ai∧a2.ci=a.ci∧a2.Am=a.Am∧a2.cm=a.cm)∧ds2.length=s'.deeds.length ∧
 ((R=[]∧a2.Ag=a.Ag∧a2.cg=a.cg∧s'.g.p=p)∨R=[.row (.slice a2.Ag s'.g.p.length a2.cg) 2 1 s'.g.p.length (ints .i64 s'.g.p)]) ∧
 S'=R++[.blk g 109 (navE s' a2),dedH a2.Ad a2.cd ds2]
theorem GnR.same{g:Nat}{a:NvA}{s':NavS}{ds:List DedX}(hd:ds.length=s'.deeds.length):GnR g a s'.g.p s' [.blk g 109 (navE s' a),dedH a.Ad a.cd ds] :=
 ⟨a,ds,[],⟨rfl,rfl,rfl,rfl,rfl,rfl,rfl⟩,hd,.inl ⟨rfl,rfl,rfl,rfl⟩,rfl⟩
attribute [local irreducible] OJ J HdJ Code.wpIn wpListIn Oper.wpIn bodyPost CallsIn Does
theorem move_t(g k:Nat)(s:NavS)(a:NvA)(ds:List DedX)(dx dy:Int)(w:World)(hown:Own [.blk g 109 (navE s a),dedH a.Ad a.cd ds] w)(hN:NavOk s k)(hk:k≤16777217)(hd:ds.length=s.deeds.length)(hxy:InR .i64 dx∧InR .i64 dy)(hr:RoA w (blocks [.blk g 109 (navE s a),dedH a.Ad a.cd ds]) a.Ag s.g.p.length a.cg 1 (ints .i64 s.g.p)):
  Does Tryz.prog 36 [.pointer (some ⟨g,0,none⟩),.int .i64 dx,.int .i64 dy] [.blk g 109 (navE s a),dedH a.Ad a.cd ds] w
   (fun v S'=>v=.agg (inpE (moveN s dx dy).2).toArray∧GnR g a s.g.p (moveN s dx dy).1 S'):=by
 have h1:NavOk { s with x:=addN s.x dx,y:=addN s.y dy,sat:=s.sat||endN s.x dx||endN s.y dy,sums:=IntKind.i64.wrap (IntKind.i64.wrap (s.sums+1)+1) } k:=⟨hN.cf,hN.ln,hN.p,hN.w,hN.mode,⟨addN_in _ _,addN_in _ _⟩,hN.g,hN.b,hN.bn,hN.tr,hN.seq,hN.time,hN.len,hN.dl⟩
 have u1:=fun w ho=>n_uadd g s a w s.x dx ho hN.nvl hN.xy.1 hxy.1
 have u2:=fun w ho=>n_uadd g { s with sat:=s.sat||endN s.x dx,sums:=IntKind.i64.wrap (s.sums+1) } a w s.y dy ho ⟨hN.nvl.pl,hN.nvl.wl⟩ hN.xy.2 hxy.2
 have i1:=nv_p hN.nvl
 have i2:=nv_w hN.nvl
 refine does_of Tryz.func36 rfl Tryz.ntmps36 rfl hown (fun _=>?_)
 simp only[slots]
 refine z_tas
 rename_i b6
 refine c_joinE2 (X:=Unit) (fun _=>True) (fun _=>[(0,.pointer (some ⟨g,0,none⟩)),(1,.int .i64 dx),(2,.int .i64 dy),(6,.pointer (some ⟨b6,0,none⟩))])
  (fun _=>[.blk b6 58 (inpE inp0),.blk g 109 (navE { s with x:=addN s.x dx,y:=addN s.y dy,sat:=s.sat||endN s.x dx||endN s.y dy,sums:=IntKind.i64.wrap (IntKind.i64.wrap (s.sums+1)+1) } a),dedH a.Ad a.cd ds]) ?_ ?_
 ·clear h1 hr
  refine c_drx [] [true,true,true,true,true,true,true,true,true,false,true,false,true,true,true,true,true,true,true,false,true,false,true,true,true,false,true,true,true,false] [9,11,19,21,25,29] (.nil _) rfl (by decide) (by decide +kernel) ?_
  repeat' (first|refine x_skip rfl rfl rfl ?_|(refine x_run rfl rfl rfl ?_ ?_;(next=>first|exact trivial|omega))|refine x_nil ?_)
  refine t_weakV ?_
  intro _
  refine z_gvx
  all_goals refine lf rfl rfl rfl (S:=[.blk g 109 (navE s a)]) (fun w hw ho=>u1 w ho) ?_
  all_goals rintro v S' ⟨rfl,rfl⟩
  all_goals refine z_gvx
  all_goals refine lf rfl rfl rfl (S:=[.blk g 109 (navE { s with sat:=s.sat||endN s.x dx,sums:=IntKind.i64.wrap (s.sums+1) } a)]) (fun w hw ho=>u2 w ho) ?_
  all_goals rintro v S' ⟨rfl,rfl⟩
  all_goals refine z_gvx
  all_goals exact c_round () trivial trivial ⟨rfl,rfl,rfl,rfl,trivial⟩ (by first|exact(Sub.cons (.here _ _) (Sub.cons (.here _ _) (Sub.cons (.here _ _) (Sub.nil _))))|exact(Sub.cons (.there _ (.here _ _)) (Sub.cons (.here _ _) (Sub.cons (.here _ _) (Sub.nil _)))))
 ·rintro _ -
  clear u1 u2 i1 i2
  have hgp:s.g.p=({ s with x:=addN s.x dx,y:=addN s.y dy,sat:=s.sat||endN s.x dx||endN s.y dy,sums:=IntKind.i64.wrap (IntKind.i64.wrap (s.sums+1)+1) }:NavS).g.p:=rfl
  have hd2:ds.length=({ s with x:=addN s.x dx,y:=addN s.y dy,sat:=s.sat||endN s.x dx||endN s.y dy,sums:=IntKind.i64.wrap (IntKind.i64.wrap (s.sums+1)+1) }:NavS).deeds.length:=hd
  have hr2:RoA w (blocks [.blk g 109 (navE s a),dedH a.Ad a.cd ds]) a.Ag ({ s with x:=addN s.x dx,y:=addN s.y dy,sat:=s.sat||endN s.x dx||endN s.y dy,sums:=IntKind.i64.wrap (IntKind.i64.wrap (s.sums+1)+1) }:NavS).g.p.length a.cg 1 (ints .i64 ({ s with x:=addN s.x dx,y:=addN s.y dy,sat:=s.sat||endN s.x dx||endN s.y dy,sums:=IntKind.i64.wrap (IntKind.i64.wrap (s.sums+1)+1) }:NavS).g.p):=hr
  unfold moveN
  generalize ({ s with x:=addN s.x dx,y:=addN s.y dy,sat:=s.sat||endN s.x dx||endN s.y dy,sums:=IntKind.i64.wrap (IntKind.i64.wrap (s.sums+1)+1) }:NavS)=t at *
  dsimp only
  have hL:=h1.nvl
  have i1:=nv_p hL
  have i2:=nv_w hL
  have hpw:=h1.marks.2.2.2.2.1
  have hpo:=h1.p
  have hS:=fun hh w ho hr=>spread_t g k t a ds dx dy w ho h1 hk hh hd2 hr
  have hO:∀t2:NavS,NvL t2→t2.cf=t.cf→∀a2 w,Own [.blk g 109 (navE t2 a2)] w→_:=fun t2 h2 h3 a2 w ho=>over_anyN g t2 a2 w ho h2 (by rw[h3];exact hpw)
  have iW:=within_cv t.x t.y
  clear h1 hN hr hown
  obtain⟨cf,ln,p,wt,sat,sums,x,y,md,gg,nx,bk,tries,void,fail,seq,time,deeds,ins,modes⟩:=t
  dsimp only at *
  generalize within36 x y=wi at *
  cases sat<;>cases wi
  ·refine z_tas
   refine j_outK (S':=[.blk g 109 (navE ⟨cf,ln,p,wt,false,sums,x,y,md,gg,nx,bk,tries,void,fail,seq,time,deeds,ins,modes⟩ a),dedH a.Ad a.cd ds]) (by first|exact(Sub.cons (.there _ (.here _ _)) (Sub.cons (.there _ (.here _ _)) (Sub.nil _)))|exact(Sub.cons (.here _ _) (Sub.cons (.there _ (.here _ _)) (Sub.nil _)))) ?_;refine z_rk;exact⟨rfl,by rw[hgp];exact GnR.same (s':=⟨cf,ln,p,wt,false,sums,x,y,md,gg,nx,bk,tries,void,fail,seq,time,deeds,ins,modes⟩) hd2⟩
  ·simp only[Bool.false_or,Bool.not_true,Bool.false_eq_true,if_false]
   by_cases hm:md=1
   ·subst hm
    rw[if_pos rfl]
    refine z_tas
    refine lf rfl rfl rfl (S:=[.blk g 109 (navE ⟨cf,ln,p,wt,false,sums,x,y,1,gg,nx,bk,tries,void,fail,seq,time,deeds,ins,modes⟩ a)]) (fun w hw ho=>n_pmove g ⟨cf,ln,p,wt,false,sums,x,y,1,gg,nx,bk,tries,void,fail,seq,time,deeds,ins,modes⟩ a w dx dy ho hpo) ?_
    rintro v S' ⟨rfl,rfl⟩
    have hpg:(pMove p dx dy).1.l.length=64:=(hpo.move dx dy).len
    have hpk:=hpo.move dx dy
    have hgap:(pMove p dx dy).1.gap=p.gap:=by unfold pMove;split<;>(try split)<;>rfl
    have hnl:(pNew p.gap).l.length=64:=(pNew_ok p.gap).len
    dsimp only
    generalize pMove p dx dy=pm at *
    obtain⟨q,b⟩:=pm
    dsimp only at *
    cases b
    ·refine z_tas
     refine lf rfl rfl rfl (S:=[.blk g 109 (navE ⟨cf,ln,q,wt,false,sums,x,y,1,gg,nx,bk,tries,void,fail,seq,time,deeds,ins,modes⟩ a)]) (fun w hw ho=>n_pclear g ⟨cf,ln,q,wt,false,sums,x,y,1,gg,nx,bk,tries,void,fail,seq,time,deeds,ins,modes⟩ a w ho hpk) ?_
     rintro v S' ⟨rfl,rfl⟩
     dsimp only
     rw[hgap]
     have hL:NvL ⟨cf,ln,(pNew p.gap),wt,false,sums,x,y,1,gg,nx,bk,tries,void,fail,seq,time,deeds,ins,modes⟩:=⟨hnl,hL.wl⟩
     refine z_tas
     refine lf rfl rfl rfl (S:=[.blk g 109 (navE ⟨cf,ln,(pNew p.gap),wt,false,sums,x,y,1,gg,nx,bk,tries,void,fail,seq,time,deeds,ins,modes⟩ a)]) (fun w hw ho=>hO ⟨cf,ln,(pNew p.gap),wt,false,sums,x,y,1,gg,nx,bk,tries,void,fail,seq,time,deeds,ins,modes⟩ ⟨hL.pl,hL.wl⟩ rfl a w ho) ?_
     rintro v S' ⟨rfl,rfl⟩
     refine z_tas
     refine j_outK (S':=[.blk g 109 (navE ⟨cf,ln,(pNew p.gap),wt,false,sums,x,y,1,gg,nx,bk,tries,void,fail,seq,time,deeds,ins,modes⟩ a),dedH a.Ad a.cd ds]) (by first|exact(Sub.cons (.there _ (.here _ _)) (Sub.cons (.there _ (.here _ _)) (Sub.nil _)))|exact(Sub.cons (.here _ _) (Sub.cons (.there _ (.here _ _)) (Sub.nil _)))) ?_;refine z_rk;exact⟨rfl,by rw[hgp];exact GnR.same (s':=⟨cf,ln,(pNew p.gap),wt,false,sums,x,y,1,gg,nx,bk,tries,void,fail,seq,time,deeds,ins,modes⟩) hd2⟩
    ·have hL:NvL ⟨cf,ln,q,wt,false,sums,x,y,1,gg,nx,bk,tries,void,fail,seq,time,deeds,ins,modes⟩:=⟨hpg,hL.wl⟩
     refine z_tas
     refine lf rfl rfl rfl (S:=[.blk g 109 (navE ⟨cf,ln,q,wt,false,sums,x,y,1,gg,nx,bk,tries,void,fail,seq,time,deeds,ins,modes⟩ a)]) (fun w hw ho=>hO ⟨cf,ln,q,wt,false,sums,x,y,1,gg,nx,bk,tries,void,fail,seq,time,deeds,ins,modes⟩ ⟨hL.pl,hL.wl⟩ rfl a w ho) ?_
     rintro v S' ⟨rfl,rfl⟩
     refine z_tas
     refine j_outK (S':=[.blk g 109 (navE ⟨cf,ln,q,wt,false,sums,x,y,1,gg,nx,bk,tries,void,fail,seq,time,deeds,ins,modes⟩ a),dedH a.Ad a.cd ds]) (by first|exact(Sub.cons (.there _ (.here _ _)) (Sub.cons (.there _ (.here _ _)) (Sub.nil _)))|exact(Sub.cons (.here _ _) (Sub.cons (.there _ (.here _ _)) (Sub.nil _)))) ?_;refine z_rk;exact⟨rfl,by rw[hgp];exact GnR.same (s':=⟨cf,ln,q,wt,false,sums,x,y,1,gg,nx,bk,tries,void,fail,seq,time,deeds,ins,modes⟩) hd2⟩
   ·rw[if_neg hm]
    by_cases hh:holdsN md=true
    ·rw[if_pos hh]
     have iH:=holds_cv md
     rw[decide_eq_true (of_decide_eq_true hh)]at iH
     refine z_tas
     refine lf rfl rfl rfl (S:=[.blk g 109 (navE ⟨cf,ln,p,wt,false,sums,x,y,md,gg,nx,bk,tries,void,fail,seq,time,deeds,ins,modes⟩ a),dedH a.Ad a.cd ds]) (fun w hw ho=>hS hh w ho ⟨hr2.h.go hw Split.au⟩) ?_
     have hL3:NvL (spreadN ⟨cf,ln,p,wt,false,sums,x,y,md,gg,nx,bk,tries,void,fail,seq,time,deeds,ins,modes⟩ dx dy):=⟨hL.pl,hL.wl⟩
     have hc3:(spreadN ⟨cf,ln,p,wt,false,sums,x,y,md,gg,nx,bk,tries,void,fail,seq,time,deeds,ins,modes⟩ dx dy).cf=cf:=rfl
     generalize spreadN ⟨cf,ln,p,wt,false,sums,x,y,md,gg,nx,bk,tries,void,fail,seq,time,deeds,ins,modes⟩ dx dy=t3 at *
     rintro v S' ⟨rfl,A1,c1,A2,c2,ds2,hd3,rfl⟩
     refine z_tas
     refine lf rfl rfl rfl (S:=[.blk g 109 (navE t3 { a with Ag:=A1,cg:=c1,Ad:=A2,cd:=c2 })]) (fun w hw ho=>hO t3 hL3 hc3 _ w ho) ?_
     rintro v S' ⟨rfl,rfl⟩
     refine z_tas
     refine j_outK (S':=[.row (.slice A1 t3.g.p.length c1) 2 1 t3.g.p.length (ints .i64 t3.g.p),.blk g 109 (navE t3 { a with Ag:=A1,cg:=c1,Ad:=A2,cd:=c2 }),dedH A2 c2 ds2]) ?_ ?_
     ·exact(Sub.cons (.there _ (.here _ _)) (Sub.cons (.here _ _) (Sub.cons (.here _ _) (Sub.nil _))))
     ·refine z_rk;exact⟨rfl,{ a with Ag:=A1,cg:=c1,Ad:=A2,cd:=c2 },ds2,[_],⟨rfl,rfl,rfl,rfl,rfl,rfl,rfl⟩,hd3,.inr rfl,rfl⟩
    ·rw[if_neg hh]
     have iH:=holds_cv md
     rw[decide_eq_false (fun h=>hh (decide_eq_true h))]at iH
     refine z_tas
     refine lf rfl rfl rfl (S:=[.blk g 109 (navE ⟨cf,ln,p,wt,false,sums,x,y,md,gg,nx,bk,tries,void,fail,seq,time,deeds,ins,modes⟩ a)]) (fun w hw ho=>hO ⟨cf,ln,p,wt,false,sums,x,y,md,gg,nx,bk,tries,void,fail,seq,time,deeds,ins,modes⟩ ⟨hL.pl,hL.wl⟩ rfl a w ho) ?_
     rintro v S' ⟨rfl,rfl⟩
     refine z_tas
     refine j_outK (S':=[.blk g 109 (navE ⟨cf,ln,p,wt,false,sums,x,y,md,gg,nx,bk,tries,void,fail,seq,time,deeds,ins,modes⟩ a),dedH a.Ad a.cd ds]) (by first|exact(Sub.cons (.there _ (.here _ _)) (Sub.cons (.there _ (.here _ _)) (Sub.nil _)))|exact(Sub.cons (.here _ _) (Sub.cons (.there _ (.here _ _)) (Sub.nil _)))) ?_;refine z_rk;exact⟨rfl,by rw[hgp];exact GnR.same (s':=⟨cf,ln,p,wt,false,sums,x,y,md,gg,nx,bk,tries,void,fail,seq,time,deeds,ins,modes⟩) hd2⟩
  ·refine z_tas
   refine j_outK (S':=[.blk g 109 (navE ⟨cf,ln,p,wt,true,sums,x,y,md,gg,nx,bk,tries,void,fail,seq,time,deeds,ins,modes⟩ a),dedH a.Ad a.cd ds]) (by first|exact(Sub.cons (.there _ (.here _ _)) (Sub.cons (.there _ (.here _ _)) (Sub.nil _)))|exact(Sub.cons (.here _ _) (Sub.cons (.there _ (.here _ _)) (Sub.nil _)))) ?_;refine z_rk;exact⟨rfl,by rw[hgp];exact GnR.same (s':=⟨cf,ln,p,wt,true,sums,x,y,md,gg,nx,bk,tries,void,fail,seq,time,deeds,ins,modes⟩) hd2⟩
  ·refine z_tas
   refine j_outK (S':=[.blk g 109 (navE ⟨cf,ln,p,wt,true,sums,x,y,md,gg,nx,bk,tries,void,fail,seq,time,deeds,ins,modes⟩ a),dedH a.Ad a.cd ds]) (by first|exact(Sub.cons (.there _ (.here _ _)) (Sub.cons (.there _ (.here _ _)) (Sub.nil _)))|exact(Sub.cons (.here _ _) (Sub.cons (.there _ (.here _ _)) (Sub.nil _)))) ?_;refine z_rk;exact⟨rfl,by rw[hgp];exact GnR.same (s':=⟨cf,ln,p,wt,true,sums,x,y,md,gg,nx,bk,tries,void,fail,seq,time,deeds,ins,modes⟩) hd2⟩
end Go.Proofs.YthajpemlpmlefaaGreat
