import Derived.Test.YthajpemlpmlefaaGreatP43
import Derived.Test.YthajpemlpmlefaaGreatP44
set_option maxHeartbeats 512000000
set_option maxRecDepth 4000
set_option linter.unusedVariables false
set_option linter.unusedSimpArgs false
namespace Go.Proofs.YthajpemlpmlefaaGreat
open Go.RowKit
structure DedX where
 kind:Int
 gw:Int
 gh:Int
 gx:Int
 gy:Int
 gs:Int
 gA:Option Addr
 gn:Nat
 gc:Nat
 dx:Int
 dy:Int
 q:Int
 lA:Option Addr
 ln:Nat
 lc:Nat
 sk:Int
 sx:Int
 sy:Int
 sw:Int
 sh:Int
deriving Inhabited
abbrev dedE:DedX→List Value:=fun d=>[.int .i64 d.kind,.int .i64 d.gw,.int .i64 d.gh,.int .i64 d.gx,.int .i64 d.gy,.int .i64 d.gs,.slice d.gA d.gn d.gc,.int .i64 d.dx,.int .i64 d.dy,.int .i64 d.q,.slice d.lA d.ln d.lc,.int .i64 d.sk,.int .i64 d.sx,.int .i64 d.sy,.int .i64 d.sw,.int .i64 d.sh]
instance:RowE dedE 16:=⟨fun _=>rfl,by decide⟩
instance:OneE dedE:=⟨fun a u hu=>by simp[dedE]at hu;rcases hu with rfl|rfl|rfl|rfl|rfl|rfl|rfl|rfl|rfl|rfl|rfl|rfl|rfl|rfl|rfl|rfl<;>rfl⟩
@[reducible] def dedH(A:Option Addr)(c:Nat)(ds:List DedX):HE:=.row (.slice A ds.length c) 173 16 ds.length (flat dedE ds)
attribute [local irreducible] OJ J HdJ Code.wpIn wpListIn Oper.wpIn bodyPost CallsIn Does
theorem spread_t(g k:Nat)(s:NavS)(a:NvA)(ds:List DedX)(dx dy:Int)(w:World)(hown:Own [.blk g 109 (navE s a),dedH a.Ad a.cd ds] w)(hN:NavOk s k)(hk:k≤16777217)(hh:holdsN s.mode=true)(hd:ds.length=s.deeds.length)(hr:RoA w (blocks [.blk g 109 (navE s a),dedH a.Ad a.cd ds]) a.Ag s.g.p.length a.cg 1 (ints .i64 s.g.p)):
  Does Tryz.prog 83 [.pointer (some ⟨g,0,none⟩),.int .i64 dx,.int .i64 dy] [.blk g 109 (navE s a),dedH a.Ad a.cd ds] w
   (fun v S'=>v=.tuple #[]∧∃A1 c1 A2 c2 ds2,ds2.length=(spreadN s dx dy).deeds.length∧S'=[.row (.slice A1 (spreadN s dx dy).g.p.length c1) 2 1 (spreadN s dx dy).g.p.length (ints .i64 (spreadN s dx dy).g.p),.blk g 109 (navE (spreadN s dx dy) { a with Ag:=A1,cg:=c1,Ad:=A2,cd:=c2 }),dedH A2 c2 ds2]):=by
 have i1:=nv_p hN.nvl
 have i2:=nv_w hN.nvl
 have hg:=(hN.g hh).1
 have hq:0≤s.cf.spread∧s.cf.spread≤85:=by have:=(cnfC_ok hN.cf).2.2.2.2;omega
 obtain⟨hp1,hs1,hok⟩:=spread_ok hg hq dx dy
 have hgm:GrdOk (moveG s.g dx dy):=hg
 have hl1:(spreadG (moveG s.g dx dy) s.cf.spread).p.length=(normG (spreadG (moveG s.g dx dy) s.cf.spread)).p.length:=by unfold normG;exact(normL_len _).symm
 have hl2:=hok.len
 have hl3:=hok.2.1
 have hS:=fun (w:World) (hw:RoA w (blocks []) a.Ag s.g.p.length a.cg 1 (ints .i64 s.g.p))=>spread_any (moveG s.g dx dy) a.Ag a.cg s.cf.spread w hw hgm hq
 have hn1:0<(spreadG (moveG s.g dx dy) s.cf.spread).p.length∧(spreadG (moveG s.g dx dy) s.cf.spread).p.length≤4096:=by omega
 have hn:=fun A c w hw=>normal_any (spreadG (moveG s.g dx dy) s.cf.spread) A c w hw hp1 hn1 hs1
 have hdl:ds.length≤6*k:=by rw[hd];exact hN.dl
 have hb:=hN.b
 have hbn:=hN.bn
 have im:=gmove_cv s.g a.Ag a.cg dx dy
 unfold spreadN
 dsimp only
 have hw1:(normG (spreadG (moveG s.g dx dy) s.cf.spread)).w=s.g.w:=rfl
 have hw2:(normG (spreadG (moveG s.g dx dy) s.cf.spread)).h=s.g.h:=rfl
 generalize normG (spreadG (moveG s.g dx dy) s.cf.spread)=ng at *
 generalize spreadG (moveG s.g dx dy) s.cf.spread=sg at *
 generalize moveG s.g dx dy=mg at *
 have is:=bspread_cv s.bk (ng.w*ng.h)
 refine does_of Tryz.func83 rfl Tryz.ntmps83 rfl hown (fun _=>?_)
 simp only[slots]
 refine z_tas
 refine c_joinE2 (X:=Nat×Option Addr×Nat) (fun _=>True) (fun q=>[(0,.pointer (some ⟨g,0,none⟩)),(1,.int .i64 dx),(2,.int .i64 dy),(6,.pointer (some ⟨q.1,0,none⟩)),(7,.int .i64 0)])
  (fun q=>[.blk q.1 63 (grE sg q.2.1 q.2.2),.row (.slice q.2.1 sg.p.length q.2.2) 2 1 sg.p.length (ints .i64 sg.p),.blk g 109 (navE s a),dedH a.Ad a.cd ds]) ?_ ?_
 ·refine c_drx [.blk g 109 (navE s a)] [true,true,true,true,true,true,false,true,true,true,true,true,false,false,false,false,false,false,false] [6,12,13,14,15,16,17,18] Sub.au rfl (by decide) (by decide +kernel) ?_
  repeat' (first|refine x_skip rfl rfl rfl ?_|(refine x_run rfl rfl rfl ?_ ?_;(next=>first|exact trivial|omega))|refine x_nil ?_)
  refine t_weakV ?_
  intro _
  refine z_gvx
  all_goals refine lf rfl rfl rfl (S:=[]) (fun w hw ho=>hS w ⟨hr.h.go hw (Split.nil _)⟩) ?_
  all_goals rintro v S' ⟨u,rfl,A1,c1,rfl,rfl⟩
  all_goals refine z_gvx
  all_goals (rename_i b6;exact c_round (b6,A1,c1) trivial trivial ⟨rfl,rfl,rfl,rfl,rfl,trivial⟩ (by first|exact(Sub.cons (.here _ _) (Sub.cons (.here _ _) (Sub.cons (.here _ _) (Sub.cons (.here _ _) (Sub.nil _)))))|exact(Sub.cons (.there _ (.here _ _)) (Sub.cons (.here _ _) (Sub.cons (.here _ _) (Sub.cons (.here _ _) (Sub.nil _)))))))
 ·rintro⟨b6,A1,c1⟩ -
  obtain⟨sw,sh,sx,sy,ss,sp⟩:=sg
  dsimp only[grE]at *
  refine z_tas
  refine lf rfl rfl rfl (S:=[]) (fun w hw ho=>hn A1 c1 w ⟨Ro.row hw (Split.nil _) (by refine z_hs)⟩) ?_
  rintro v S' ⟨u,rfl,A2,c2,rfl,rfl⟩
  obtain⟨nw,nh,nx,ny,ns,np⟩:=ng
  dsimp only[grE]at *
  refine z_tas
  refine c_joinE2 (X:=Unit) (fun _=>True) (fun _=>[(0,.pointer (some ⟨g,0,none⟩)),(1,.int .i64 dx),(2,.int .i64 dy)])
   (fun _=>[.row (.slice A2 np.length c2) 2 1 np.length (ints .i64 np),.blk g 109 (navE { s with g:=⟨nw,nh,nx,ny,ns,np⟩,bk:=plusL s.bk s.bk.b (3*costL (nw*nh)) } { a with Ag:=A2,cg:=c2 }),dedH a.Ad a.cd ds]) ?_ ?_
  ·refine c_drx [.blk b6 63 [.int .i64 nw,.int .i64 nh,.int .i64 nx,.int .i64 ny,.int .i64 ns,.slice A2 np.length c2]] [true,true,true,true,true,true,false,true,false,false,false,false,false,false,false,false] [6,8,9,10,11,12,13,14,15] Sub.au rfl (by decide) (by decide +kernel) ?_
   repeat' (first|refine x_skip rfl rfl rfl ?_|(refine x_run rfl rfl rfl ?_ ?_;(next=>first|exact trivial|omega))|refine x_nil ?_)
   refine t_weakV ?_
   intro _
   refine z_gvx
   all_goals exact c_round () trivial trivial ⟨rfl,rfl,rfl,trivial⟩ (Sub.cons (.here _ _) (Sub.cons (.there _ (.there _ (.here _ _))) (Sub.cons (.there _ (.there _ (.here _ _))) (Sub.nil _))))
  ·rintro _ -
   have iU:UnE dedE [.int .i64 2,.int .i64 0,.int .i64 0,.int .i64 0,.int .i64 0,.int .i64 0,.slice none 0 0,.int .i64 dx,.int .i64 dy,.int .i64 s.cf.spread,.slice none 0 0,.int .i64 0,.int .i64 0,.int .i64 0,.int .i64 0,.int .i64 0] ⟨2,0,0,0,0,0,none,0,0,dx,dy,s.cf.spread,none,0,0,0,0,0,0,0⟩:=⟨rfl⟩
   have ed:dedH a.Ad a.cd ds=.row (.slice a.Ad s.deeds.length a.cd) 173 16 s.deeds.length (flat dedE ds):=by rw[dedH,hd]
   rw[ed]
   have e:(ds++[(⟨2,0,0,0,0,0,none,0,0,dx,dy,s.cf.spread,none,0,0,0,0,0,0,0⟩:DedX)]).length=(s.deeds++[(⟨2,grd0,dx,dy,s.cf.spread,[],⟨0,0,0,0,0⟩⟩:Ded)]).length:=by rw[List.length_append,List.length_append,hd];rfl
   dsimp only[navE,tlE]
   refine c_drx [] [true,true,true,true,false,true,true,true,true,true,true,false,false,false,false,false,false,false] [4,11,12,13,14,15,16,17] (.nil _) rfl (by decide) (by decide +kernel) ?_
   repeat' (first|refine x_skip rfl rfl rfl ?_|(refine x_run rfl rfl rfl ?_ ?_;(next=>first|exact trivial|omega))|refine x_nil ?_)
   refine t_weakV ?_
   intro _
   refine z_gvx
   all_goals rename_i A3 c3
   all_goals rw[e]
   all_goals exact j_outN (S':=[.row (.slice A2 np.length c2) 2 1 np.length (ints .i64 np),.blk g 109 (navE { s with g:=⟨nw,nh,nx,ny,ns,np⟩,bk:=plusL s.bk s.bk.b (3*costL (nw*nh)),deeds:=s.deeds++[⟨2,grd0,dx,dy,s.cf.spread,[],⟨0,0,0,0,0⟩⟩] } { a with Ag:=A2,cg:=c2,Ad:=A3,cd:=c3 }),.row (.slice A3 (s.deeds++[(⟨2,grd0,dx,dy,s.cf.spread,[],⟨0,0,0,0,0⟩⟩:Ded)]).length c3) 173 16 (s.deeds++[(⟨2,grd0,dx,dy,s.cf.spread,[],⟨0,0,0,0,0⟩⟩:Ded)]).length (flat dedE (ds++[(⟨2,0,0,0,0,0,none,0,0,dx,dy,s.cf.spread,none,0,0,0,0,0,0,0⟩:DedX)]))]) rfl (Sub.cons (.there _ (.here _ _)) (Sub.cons (.there _ (.here _ _)) (Sub.cons (.there _ (.here _ _)) (Sub.nil _)))) ⟨rfl,A2,c2,A3,c3,_,e,by rw[dedH,e]⟩
end Go.Proofs.YthajpemlpmlefaaGreat
