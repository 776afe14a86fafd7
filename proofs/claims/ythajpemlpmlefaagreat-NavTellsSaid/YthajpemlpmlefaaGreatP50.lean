import Derived.Test.YthajpemlpmlefaaGreatP48
import Derived.Test.YthajpemlpmlefaaGreatP49
set_option maxHeartbeats 512000000
set_option maxRecDepth 4000
set_option linter.unusedVariables false
set_option linter.unusedSimpArgs false
namespace Go.Proofs.YthajpemlpmlefaaGreat
open Go.RowKit
def wgh1(s:NavS)(l:List Int):NavS:={ s with void:=false,w:=wFound s.cf s.w (wsTo s.g.p l s.g.p.length) (sumL s.g.p s.g.p.length),g:={ s.g with p:=wghL s.g.p l },bk:=plusL s.bk (scaledL s.bk.b (mostTo l l.length) (sumL s.g.p s.g.p.length) (wsTo s.g.p l s.g.p.length)) (costL l.length),deeds:=s.deeds++[⟨3,grd0,0,0,0,l,⟨0,0,0,0,0⟩⟩] }
section
variable {W H:Nat} {f:List Int}
theorem weighN_none{s:NavS}{z:Int}(h:weightsN W H f s.g s.cf.noi z=none):weighN W H f s z=({ s with void:=true,w:={ s.w with miss:=s.w.miss+1 } },{ inp0 with missed:=true }):=by
 unfold weighN
 rw[h]
theorem weighN_some{s:NavS}{z:Int}{l:List Int}(h:weightsN W H f s.g s.cf.noi z=some l):weighN W H f s z=(layN 4 (wgh1 s l),{ inp0 with found:=true }):=by
 unfold weighN
 rw[h]
 rfl
end
def WeR(K:CaT)(f:List Int)(g:Nat)(a:NvA)(og:Option Addr×Nat×List Int)(b:Int)(s':NavS)(S':List HE):Prop:=∃c1 a2 ds2 Ax cx xs,CaOk K.ys f K.room c1 b∧(a2.ptr=a.ptr∧a2.An=a.An∧a2.cn=a.cn∧a2.Ai=a.Ai∧a2.ci=a.ci∧a2.Am=a.Am∧a2.cm=a.cm)∧ds2.length=s'.deeds.length ∧
 (((a2.Ag,a2.cg,s'.g.p):Option Addr×Nat×List Int)=(Ax,cx,xs)∨((a2.Ag,a2.cg,s'.g.p):Option Addr×Nat×List Int)=og) ∧
 S'=.row (.slice Ax xs.length cx) 2 1 xs.length (ints .i64 xs)::.blk g 109 (navE s' a2)::dedH a2.Ad a2.cd ds2::K.H c1
theorem wgh1_ok{W H:Nat}{f:List Int}{s:NavS}{k:Nat}(hN:NavOk s k)(hh:holdsN s.mode=true){z:Int}{l:List Int}(hwo:weightsN W H f s.g s.cf.noi z=some l):GrdOk (wgh1 s l).g∧(0≤(wgh1 s l).bk.b∧(wgh1 s l).bk.b≤1099511627776)∧(0≤(wgh1 s l).bk.n∧(wgh1 s l).bk.n≤6*(k:Int)+1)∧(wgh1 s l).deeds.length≤6*k+1∧NvL (wgh1 s l):=by
 obtain⟨hg,hfr⟩:=hN.g hh
 have hgl:=hg.len
 obtain⟨hc1,hc2,hc3,hc4,hc5,hc6,hc7⟩:=cnfC_ok hN.cf
 obtain⟨l1,l2,l3⟩:=weightsN_ok hc3 hwo
 obtain⟨hz1,ho⟩:=weigh_ok hg l2 l1 l3
 have hmi:=most_in l2 l.length (Nat.le_refl _)
 have hs0:0≤sumL s.g.p s.g.p.length:=by have:=hg.2.2.2.1;omega
 have hcost:=costL_in (n:=(l.length:Int)) (by omega)
 have hbn:=hN.bn
 have hdl:=hN.dl
 have hsc:=scaledL_in (b:=s.bk.b) (most:=mostTo l l.length) (s:=sumL s.g.p s.g.p.length) (z:=wsTo s.g.p l s.g.p.length) hN.b hmi.1 hs0
 have hp:=plusL_in (k:=s.bk) (b:=scaledL s.bk.b (mostTo l l.length) (sumL s.g.p s.g.p.length) (wsTo s.g.p l s.g.p.length)) (more:=costL l.length) ⟨hsc,hcost.1,Int.le_trans hcost.2 (by decide)⟩
 have hn:(plusL s.bk (scaledL s.bk.b (mostTo l l.length) (sumL s.g.p s.g.p.length) (wsTo s.g.p l s.g.p.length)) (costL l.length)).n=s.bk.n+1:=rfl
 have hwl:(wFound s.cf s.w (wsTo s.g.p l s.g.p.length) (sumL s.g.p s.g.p.length)).l.length=32:=by
  show (s.w.l.set _ _).length=32
  rw[List.length_set]
  exact hN.nvl.wl
 have hpl:=hN.nvl.pl
 have e1:(wgh1 s l).g = { s.g with p:=wghL s.g.p l }:=rfl
 have e2:(wgh1 s l).bk=plusL s.bk (scaledL s.bk.b (mostTo l l.length) (sumL s.g.p s.g.p.length) (wsTo s.g.p l s.g.p.length)) (costL l.length):=rfl
 have e3:(wgh1 s l).deeds.length=s.deeds.length+1:=List.length_append
 have e4:(wgh1 s l).p.l=s.p.l:=rfl
 have e5:(wgh1 s l).w=wFound s.cf s.w (wsTo s.g.p l s.g.p.length) (sumL s.g.p s.g.p.length):=rfl
 rw[e1,e2,e3]
 generalize plusL s.bk (scaledL s.bk.b (mostTo l l.length) (sumL s.g.p s.g.p.length) (wsTo s.g.p l s.g.p.length)) (costL l.length)=pl at *
 exact⟨ho,hp,by omega,by omega,by rw[e4];exact hpl,by rw[e5];exact hwl⟩
theorem sum_in30{p:List Int}(h:Pos30 p)(hl:p.length≤4096):0≤sumL p p.length∧sumL p p.length≤4398046511104:=by
 have key:∀n,n≤p.length→0≤sumL p n∧sumL p n≤1073741824*(n:Int):=by
  intro n
  induction n with
  | zero=>intro _;exact⟨Int.le_refl _,Int.le_refl _⟩
  | succ n ih =>
   intro hn
   have h1:=ih (by omega)
   have h2:=h n (by omega)
   rw[sumL]
   push_cast
   omega
 have:=key _ (Nat.le_refl _)
 omega
attribute [local irreducible] OJ J HdJ Code.wpIn wpListIn Oper.wpIn bodyPost CallsIn Does
theorem weigh_no(K:CaT)(c0:CaV)(f:List Int)(g k:Nat)(s:NavS)(a:NvA)(ds:List DedX)(z b:Int)(w:World)(hown:Own (.blk g 109 (navE s a)::dedH a.Ad a.cd ds::K.H c0) w)(hN:NavOk s k)(hk:k≤16777215)(hh:holdsN s.mode=true)(hp:a.ptr=some ⟨K.g,0,none⟩)(hF:CaF K.ys f K.room)(hk0:CaOk K.ys f K.room c0 b)(hb:b≤300000000000000000)
  (hz : -4294967296≤z∧z≤4294967296) (hd:ds.length=s.deeds.length) (hr:RoA w (blocks (.blk g 109 (navE s a)::dedH a.Ad a.cd ds::K.H c0)) a.Ag s.g.p.length a.cg 1 (ints .i64 s.g.p))
  (hwo:weightsN (wY K.ys) (hY K.ys) f s.g s.cf.noi z=none) :
  Does Tryz.prog 78 [.pointer (some ⟨g,0,none⟩),.int .i64 z] (.blk g 109 (navE s a)::dedH a.Ad a.cd ds::K.H c0) w
   (fun v S'=>v=.agg (inpE (weighN (wY K.ys) (hY K.ys) f s z).2).toArray∧WeR K f g a (a.Ag,a.cg,s.g.p) (b+20000) (weighN (wY K.ys) (hY K.ys) f s z).1 S'):=by
 obtain⟨hg,hfr⟩:=hN.g hh
 have hgl:=hg.len
 obtain⟨hc1,hc2,hc3,hc4,hc5,hc6,hc7⟩:=cnfC_ok hN.cf
 have hxy:(-2305843009213693952≤s.g.x∧s.g.x≤2305843009213693952)∧(-2305843009213693952≤s.g.y∧s.g.y≤2305843009213693952):=by unfold FarG at hfr;omega
 have hW:=fun w ho hr=>weights_t K c0 f s.g a.Ag a.cg s.cf.noi z b w ho hF hk0 (by omega) hr hg (by omega) (by omega) hc3 (by omega)
 rw[hwo]at hW
 have i1:=nv_p hN.nvl
 have i2:=nv_w hN.nvl
 rw[weighN_none hwo]
 have hM:=fun w ho=>n_wmissed g { s with void:=true } a w ho ⟨hN.nvl.pl,hN.nvl.wl⟩ (hN.wt (by omega))
 refine does_of Tryz.func78 rfl Tryz.ntmps78 rfl hown (fun _=>?_)
 simp only[slots]
 refine j_nil (e:=2) (size:=1) ?_
 refine z_tas
 rename_i b2 b4
 refine c_joinE2 (X:=CaV) (fun q=>CaOk K.ys f K.room q (b+20000)) (fun q=>[(2,.pointer (some ⟨b2,0,none⟩)),(4,.pointer (some ⟨b4,0,none⟩)),(6,.bool false)]) (fun q=>.blk b4 58 [.bool false,.bool false,.bool false,.bool false,.bool false,.bool false,.bool false,.bool false,.bool false]::.blk b2 39 [.pointer (some ⟨g,0,none⟩)]::.row (.slice none 0 0) 2 1 0 []::.blk g 109 (navE s a)::dedH a.Ad a.cd ds::K.H q) ?_ ?_
 ·skip
  refine c_drx [.blk b2 39 [.pointer (some ⟨g,0,none⟩)],.blk g 109 (navE s a)] [true,true,true,true,true,true,true,true,true,true,true,true,true,true,false,false,false,false,false,false] [14,15,16,17,18,19] Sub.au rfl (by decide) (by decide +kernel) ?_
  repeat' (first|refine x_skip rfl rfl rfl ?_|(refine x_run rfl rfl rfl ?_ ?_;(next=>first|exact trivial|omega))|refine x_nil ?_)
  refine t_weakV ?_
  intro _
  all_goals refine z_gvx
  all_goals rw[hp]
  all_goals refine lf rfl rfl rfl (S:=K.H c0) (fun w hw ho=>hW w ho ⟨hr.h.go hw Split.au⟩) ?_
  all_goals rintro v S' ⟨c1,hk1,⟨-,rfl,rfl⟩ | ⟨l,A,c,h,-⟩⟩
  all_goals try (cases h;done)
  all_goals refine z_gvx
  all_goals exact c_round c1 hk1 trivial ⟨rfl,rfl,rfl,trivial⟩ Sub.au
 ·rintro c1 hk1
  refine z_tas
  refine lf rfl rfl rfl (S:=[.blk g 109 (navE { s with void:=true } a)]) (fun w hw ho=>hM w ho) ?_
  rintro v S' ⟨rfl,rfl⟩
  refine z_tas
  refine j_outK (S':=.row (.slice none 0 0) 2 1 0 []::.blk g 109 (navE { s with void:=true,w:={ s.w with miss:=s.w.miss+1 } } a)::dedH a.Ad a.cd ds::K.H c1) Sub.au ?_
  refine z_rk
  exact⟨rfl,c1,a,ds,none,0,[],hk1,⟨rfl,rfl,rfl,rfl,rfl,rfl,rfl⟩,hd,.inr rfl,rfl⟩
theorem weigh_yes(K:CaT)(c0:CaV)(f:List Int)(g k:Nat)(s:NavS)(a:NvA)(ds:List DedX)(z b:Int)(w:World)(hown:Own (.blk g 109 (navE s a)::dedH a.Ad a.cd ds::K.H c0) w)(hN:NavOk s k)(hk:k≤16777215)(hh:holdsN s.mode=true)(hp:a.ptr=some ⟨K.g,0,none⟩)(hF:CaF K.ys f K.room)(hk0:CaOk K.ys f K.room c0 b)(hb:b≤300000000000000000)
  (hz : -4294967296≤z∧z≤4294967296) (hd:ds.length=s.deeds.length) (hr:RoA w (blocks (.blk g 109 (navE s a)::dedH a.Ad a.cd ds::K.H c0)) a.Ag s.g.p.length a.cg 1 (ints .i64 s.g.p))
  (l:List Int) (hwo:weightsN (wY K.ys) (hY K.ys) f s.g s.cf.noi z=some l) :
  Does Tryz.prog 78 [.pointer (some ⟨g,0,none⟩),.int .i64 z] (.blk g 109 (navE s a)::dedH a.Ad a.cd ds::K.H c0) w
   (fun v S'=>v=.agg (inpE (weighN (wY K.ys) (hY K.ys) f s z).2).toArray∧WeR K f g a (a.Ag,a.cg,s.g.p) (b+20000) (weighN (wY K.ys) (hY K.ys) f s z).1 S'):=by
 obtain⟨hg,hfr⟩:=hN.g hh
 have hgl:=hg.len
 obtain⟨hc1,hc2,hc3,hc4,hc5,hc6,hc7⟩:=cnfC_ok hN.cf
 have hxy:(-2305843009213693952≤s.g.x∧s.g.x≤2305843009213693952)∧(-2305843009213693952≤s.g.y∧s.g.y≤2305843009213693952):=by unfold FarG at hfr;omega
 have hW:=fun w ho hr=>weights_t K c0 f s.g a.Ag a.cg s.cf.noi z b w ho hF hk0 (by omega) hr hg (by omega) (by omega) hc3 (by omega)
 rw[hwo]at hW
 have i1:=nv_p hN.nvl
 have i2:=nv_w hN.nvl
 rw[weighN_some hwo]
 obtain⟨l1,l2,l3⟩:=weightsN_ok hc3 hwo
 obtain⟨hz1,ho⟩:=weigh_ok hg l2 l1 l3
 have hsum:=fun w hw=>gsum_any s.g a.Ag a.cg w hw hg.2.2.1 hgl.2
 have hwg:=fun Al cl w hr hrl=>weigh_any s.g a.Ag a.cg Al cl l w hr hrl hg.2.2.1 l2 l1 hgl hz1
 have hfo:=fun w ho=>n_wfound g { s with void:=false } a w (wsTo s.g.p l s.g.p.length) (sumL s.g.p s.g.p.length) ho ⟨hN.nvl.pl,hN.nvl.wl⟩ (hN.wt (by omega))
 have hwk:=wgh1_ok hN hh hwo
 have hmo:mostTo l s.g.p.length=mostTo l l.length:=by rw[l1]
 rw[hmo]at hwg
 have hmi:=most_in l2 l.length (Nat.le_refl _)
 have hwi:=ws_in hg.2.2.1 l2 l1 s.g.p.length (Nat.le_refl _)
 have hs0:0<sumL s.g.p s.g.p.length∧sumL s.g.p s.g.p.length≤1073741824:=by have:=hg.2.2.2.1;have:=hg.2.2.2.2;omega
 have hw1:wgh1 s l = { s with void:=false,w:=wFound s.cf s.w (wsTo s.g.p l s.g.p.length) (sumL s.g.p s.g.p.length),g:={ s.g with p:=wghL s.g.p l },bk:=plusL s.bk (scaledL s.bk.b (mostTo l l.length) (sumL s.g.p s.g.p.length) (wsTo s.g.p l s.g.p.length)) (costL l.length),deeds:=s.deeds++[⟨3,grd0,0,0,0,l,⟨0,0,0,0,0⟩⟩] }:=rfl
 have hfl:(wFound s.cf s.w (wsTo s.g.p l s.g.p.length) (sumL s.g.p s.g.p.length)).l.length=32:=by show (s.w.l.set _ _).length=32;rw[List.length_set];exact hN.nvl.wl
 generalize wsTo s.g.p l s.g.p.length=ws at *
 generalize sumL s.g.p s.g.p.length=sm at *
 generalize mostTo l l.length=mo at *
 generalize wghL s.g.p l=q at *
 have hb0:=hN.b
 have hbn:=hN.bn
 have hdl:=hN.dl
 have iB:=bweigh_cv s.bk (l.length:Int) mo sm ws
 have hfo2:=fun w ho=>hfo w ho ⟨hz1,by omega⟩ hs0
 clear hfo hmo
 have i3:LenE (ints .i64 (wFound s.cf s.w ws sm).l) 32:=⟨by rw[ints_len,hfl]⟩
 refine does_ofM Tryz.func78 rfl Tryz.ntmps78 rfl hown (fun _=>?_)
 simp only[slots]
 refine z_tas
 rename_i b2 b4
 refine c_joinE2 (X:=CaV×Option Addr×Nat) (fun q=>CaOk K.ys f K.room q.1 (b+20000)) (fun q=>[(2,.pointer (some ⟨b2,0,none⟩)),(4,.pointer (some ⟨b4,0,none⟩)),(5,.slice q.2.1 l.length q.2.2),(6,.bool true)]) (fun q=>.row (.slice q.2.1 l.length q.2.2) 2 1 l.length (ints .i64 l)::.blk b4 58 [.bool false,.bool false,.bool false,.bool false,.bool false,.bool false,.bool false,.bool false,.bool false]::.blk b2 39 [.pointer (some ⟨g,0,none⟩)]::.blk g 109 (navE s a)::dedH a.Ad a.cd ds::K.H q.1) ?_ ?_
 ·skip
  refine c_drx [.blk b2 39 [.pointer (some ⟨g,0,none⟩)],.blk g 109 (navE s a)] [true,true,true,true,true,true,true,true,true,true,true,true,true,true,false,false,false,false,false,false] [14,15,16,17,18,19] Sub.au rfl (by decide) (by decide +kernel) ?_
  repeat' (first|refine x_skip rfl rfl rfl ?_|(refine x_run rfl rfl rfl ?_ ?_;(next=>first|exact trivial|omega))|refine x_nil ?_)
  refine t_weakV ?_
  intro _
  all_goals refine z_gvx
  all_goals rw[hp]
  all_goals refine lf rfl rfl rfl (S:=K.H c0) (fun w hw ho=>hW w ho ⟨hr.h.go hw Split.au⟩) ?_
  all_goals rintro v S' ⟨c1,hk1,⟨h,-⟩ | ⟨l',A,c,h,rfl,rfl⟩⟩
  all_goals try (cases h;done)
  all_goals (injection h with h;subst h)
  all_goals refine z_gvx
  all_goals exact c_round (c1,A,c) hk1 trivial ⟨rfl,rfl,rfl,rfl,trivial⟩ Sub.au
 ·rintro⟨c1,Al,cl⟩ hk1
  dsimp only at hk1 ⊢
  clear hW
  refine z_tas
  refine lfv rfl rfl rfl (fun w hw=>hsum w ⟨hr.h.go hw (Split.nil _)⟩) ?_
  refine z_tas
  refine lf rfl rfl rfl (S:=[]) (fun w hw ho=>hwg Al cl w ⟨hr.h.go hw (Split.nil _)⟩ ⟨Ro.row hw (Split.nil _) (by refine z_hs)⟩) ?_
  rintro v S' ⟨u,rfl,A2,c2,rfl,rfl⟩
  dsimp only[grE]
  refine z_tas
  rename_i b8 b9
  refine c_drx [.blk b2 39 [.pointer (some ⟨g,0,none⟩)],.blk b9 238 (wideV ws)] [true,true,true,true,true,false] [5] Sub.au rfl (by decide) (by decide +kernel) ?_
  repeat' (first|refine x_skip rfl rfl rfl ?_|(refine x_run rfl rfl rfl ?_ ?_;(next=>first|exact trivial|omega))|refine x_nil ?_)
  refine t_weakV ?_
  intro _
  all_goals refine z_gvx
  refine lf rfl rfl rfl (S:=[.blk g 109 (navE { s with void:=false } a)]) (fun w hw ho=>hfo2 w ho) ?_
  rintro v S' ⟨rfl,rfl⟩
  dsimp only
  all_goals refine z_gvx
  refine c_joinE2 (X:=Unit) (fun _=>True) (fun _=>[(2,.pointer (some ⟨b2,0,none⟩)),(4,.pointer (some ⟨b4,0,none⟩)),(5,.slice Al l.length cl)])
   (fun _=>.row (.slice A2 q.length c2) 2 1 q.length (ints .i64 q)::.blk b4 58 [.bool false,.bool false,.bool false,.bool false,.bool false,.bool false,.bool false,.bool false,.bool false]::.blk b2 39 [.pointer (some ⟨g,0,none⟩)]::.blk g 109 (navE { s with void:=false,w:=wFound s.cf s.w ws sm,g:={ s.g with p:=q },bk:=plusL s.bk (scaledL s.bk.b mo sm ws) (costL l.length) } { a with Ag:=A2,cg:=c2 })::dedH a.Ad a.cd ds::K.H c1) ?_ ?_
  ·refine c_drx [.blk b2 39 [.pointer (some ⟨g,0,none⟩)],.blk b8 63 [.int .i64 s.g.w,.int .i64 s.g.h,.int .i64 s.g.x,.int .i64 s.g.y,.int .i64 s.g.st,.slice A2 q.length c2],.blk b9 238 (wideV ws)] [true,true,true,true,true,true,false,true,true,true,true,true,false,false,false,false,false,false,false] [6,12,13,14,15,16,17,18] Sub.au rfl (by decide) (by decide +kernel) ?_
   repeat' (first|refine x_skip rfl rfl rfl ?_|(refine x_run rfl rfl rfl ?_ ?_;(next=>first|exact trivial|omega))|refine x_nil ?_)
   refine t_weakV ?_
   intro _
   all_goals refine z_gvx
   all_goals exact c_round () trivial trivial ⟨rfl,rfl,rfl,trivial⟩ Sub.au
  rintro _ -
  have iU:UnE dedE [.int .i64 3,.int .i64 0,.int .i64 0,.int .i64 0,.int .i64 0,.int .i64 0,.slice none 0 0,.int .i64 0,.int .i64 0,.int .i64 0,.slice Al l.length cl,.int .i64 0,.int .i64 0,.int .i64 0,.int .i64 0,.int .i64 0] ⟨3,0,0,0,0,0,none,0,0,0,0,0,Al,l.length,cl,0,0,0,0,0⟩:=⟨rfl⟩
  have ed:dedH a.Ad a.cd ds=.row (.slice a.Ad s.deeds.length a.cd) 173 16 s.deeds.length (flat dedE ds):=by rw[dedH,hd]
  have e:(ds++[(⟨3,0,0,0,0,0,none,0,0,0,0,0,Al,l.length,cl,0,0,0,0,0⟩:DedX)]).length=(s.deeds++[(⟨3,grd0,0,0,0,l,⟨0,0,0,0,0⟩⟩:Ded)]).length:=by rw[List.length_append,List.length_append,hd];rfl
  rw[ed]
  refine c_seq ?_
  refine c_joinE2 (X:=Option Addr×Nat) (fun _=>True) (fun _=>[(2,.pointer (some ⟨b2,0,none⟩)),(4,.pointer (some ⟨b4,0,none⟩))])
   (fun z=>.row (.slice A2 q.length c2) 2 1 q.length (ints .i64 q)::.blk b4 58 [.bool false,.bool false,.bool false,.bool false,.bool false,.bool false,.bool false,.bool false,.bool false]::.blk b2 39 [.pointer (some ⟨g,0,none⟩)]::.blk g 109 (navE { s with void:=false,w:=wFound s.cf s.w ws sm,g:={ s.g with p:=q },bk:=plusL s.bk (scaledL s.bk.b mo sm ws) (costL l.length),deeds:=s.deeds++[⟨3,grd0,0,0,0,l,⟨0,0,0,0,0⟩⟩] } { a with Ag:=A2,cg:=c2,Ad:=z.1,cd:=z.2 })::.row (.slice z.1 (s.deeds++[(⟨3,grd0,0,0,0,l,⟨0,0,0,0,0⟩⟩:Ded)]).length z.2) 173 16 (s.deeds++[(⟨3,grd0,0,0,0,l,⟨0,0,0,0,0⟩⟩:Ded)]).length (flat dedE (ds++[⟨3,0,0,0,0,0,none,0,0,0,0,0,Al,l.length,cl,0,0,0,0,0⟩]))::K.H c1) ?_ ?_
  ·dsimp only[navE,tlE]
   refine c_drx [.blk b2 39 [.pointer (some ⟨g,0,none⟩)]] [true,true,true,true,false,true,false,false,false,false,false,false] [4,6,7,8,9,10,11] Sub.au rfl (by decide) (by decide +kernel) ?_
   repeat' (first|refine x_skip rfl rfl rfl ?_|(refine x_run rfl rfl rfl ?_ ?_;(next=>first|exact trivial|omega))|refine x_nil ?_)
   refine t_weakV ?_
   intro _
   all_goals refine z_gvx
   all_goals rename_i A3 c3
   all_goals rw[e]
   all_goals exact c_round (A3,c3) trivial trivial ⟨rfl,rfl,trivial⟩ Sub.au
  rintro⟨A3,c3⟩ -
  dsimp only
  rw[← e]
  rw[← hw1]
  obtain⟨hg1,hb1,hbn1,hdl1,hL1⟩:=hwk
  have hnr:NearG (wgh1 s l).g:=by rw[hw1];exact hxy
  have hI0:=LyI.zero (k:=k) hg1 hb1 hbn1 hdl1 hL1
  have e1:(ds++[(⟨3,0,0,0,0,0,none,0,0,0,0,0,Al,l.length,cl,0,0,0,0,0⟩:DedX)]).length=(wgh1 s l).deeds.length:=by rw[hw1];exact e
  have egp:(wgh1 s l).g.p=q:=by rw[hw1]
  have ego:(wgh1 s l).g.p.length=q.length:=by rw[egp]
  clear hw1 e hwg hsum hfo2 iB iU ed hgl i1 i2 i3 hr hN hown
  rw[← egp]
  clear egp ego
  generalize hs1:wgh1 s l=s1 at *
  obtain⟨ds1,hds1⟩:∃x,ds++[(⟨3,0,0,0,0,0,none,0,0,0,0,0,Al,l.length,cl,0,0,0,0,0⟩:DedX)]=x:=⟨_,rfl⟩
  rw[hds1]at e1 ⊢
  have j1:=nv_p hL1
  have j2:=nv_w hL1
  refine z_tas
  refine lf rfl rfl rfl (S:=[]) (fun w hw ho=>regs_any s1.g A2 c2 w) ?_
  rintro v S' ⟨gb,rfl,rfl⟩
  refine z_tas
  refine j_nil (e:=2) (size:=1) ?_
  refine c_regsO (gb:=gb) (g:=s1.g) (A:=A2) (c:=c2) (S:=[.row (.slice none 0 0) 2 1 0 [],.blk b2 39 [.pointer (some ⟨g,0,none⟩)],.blk g 109 (navE s1 { a with Ag:=A2,cg:=c2,Ad:=A3,cd:=c3 }),dedH A3 c3 ds1]) (WyI g b2 k s1 { a with Ag:=A2,cg:=c2,Ad:=A3,cd:=c3 }) rfl Split.au hg1 hnr (by refine z_hs) ⟨s1,{ a with Ag:=A2,cg:=c2,Ad:=A3,cd:=c3 },ds1,none,0,[],hI0,⟨rfl,rfl,rfl,rfl,rfl,rfl,rfl⟩,e1,.inl ⟨rfl,rfl,rfl⟩,rfl⟩ ?_ ?_
  ·rintro lp i S1 A' c' hi hC ⟨s',a',ds',Ax,cx,xs,hI,⟨q1,q2,q3,q4,q5,q6,q7⟩,hdl',-,rfl⟩ w1 ho1 hro hra
   have hkk:(chooseN s'.g).kind≠0:=by rw[hI.g];exact hC i (by omega)
   have hin:=gseq_in hg1 hnr i (by omega) (hC.down (by omega))
   rw[← hI.g]at hra hin ⊢
   have hst:=chosen_ok hI.ok hkk
   have hnx:=hI.next hi hkk
   have hDo:=fun w hw=>rdo_any s'.g (chooseN s'.g) A' c' w hw hI.ok hin.2.1 hin.2.2 hst
   have hl1:lay1 s' = { s' with g:=normG (rawN s'.g (chooseN s'.g)),bk:=if (chooseN s'.g).kind=1 then plusL s'.bk s'.bk.b (2*costL ((normG (rawN s'.g (chooseN s'.g))).w*(normG (rawN s'.g (chooseN s'.g))).h))else if (chooseN s'.g).kind=2 then plusL s'.bk s'.bk.b (costL ((normG (rawN s'.g (chooseN s'.g))).w*(normG (rawN s'.g (chooseN s'.g))).h))else plusL s'.bk (scaledL s'.bk.b 1 (sumL s'.g.p s'.g.p.length) (sumL (rawN s'.g (chooseN s'.g)).p (rawN s'.g (chooseN s'.g)).p.length)) (costL ((normG (rawN s'.g (chooseN s'.g))).w*(normG (rawN s'.g (chooseN s'.g))).h)),deeds:=s'.deeds++[⟨4,grd0,0,0,0,[],chooseN s'.g⟩] }:=rfl
   have hkp:=sum_in30 hst.2.1 hst.2.2.2.2
   have hok2:=hst.2.2.2.1
   have hol2:=hok2.len
   have hwh:=hok2.2.1
   have hsm2:0≤sumL s'.g.p s'.g.p.length∧sumL s'.g.p s'.g.p.length≤1073741824:=by have:=hI.ok.2.2.2.1;have:=hI.ok.2.2.2.2;have:=hI.ok.len;omega
   have hb2:=hI.b
   have hbn2:=hI.bn
   have hdl2:=hI.dl
   have hst1:=hst.1
   have hLs:=hI.rest
   have j1:=nv_p hLs
   have j2:=nv_w hLs
   clear hst hok2 hI hI0 hg1 hnr hb1 hbn1 hdl1
   generalize sumL s'.g.p s'.g.p.length=sm2 at *
   generalize hce:chooseN s'.g=ce at *
   generalize sumL (rawN s'.g ce).p (rawN s'.g ce).p.length=kp at *
   generalize normG (rawN s'.g ce)=ng at *
   obtain⟨nw,nh,nx,ny,ns,np⟩:=ng
   obtain⟨sk,sx,sy,sw,sh⟩:=ce
   dsimp only at *
   refine yields_of (N:=170) ho1 rfl (by simp) (fun n=>?_)
   simp only[over]
   dsimp only[rstE]
   rcases hst1 with⟨rfl,-⟩ | ⟨rfl,-⟩ | ⟨rfl,-⟩
   ·have hlay:lay1 s' = { s' with g:=⟨nw,nh,nx,ny,ns,np⟩,bk:=plusL s'.bk s'.bk.b (2*costL (nw*nh)),deeds:=s'.deeds++[⟨4,grd0,0,0,0,[],⟨1,sx,sy,sw,sh⟩⟩] }:=by rw[hl1];rfl
    rw[hlay]at hnx
    have iB:=bsplit_cv s'.bk (nw*nh)
    have iU:UnE dedE [.int .i64 4,.int .i64 0,.int .i64 0,.int .i64 0,.int .i64 0,.int .i64 0,.slice none 0 0,.int .i64 0,.int .i64 0,.int .i64 0,.slice none 0 0,.int .i64 1,.int .i64 sx,.int .i64 sy,.int .i64 sw,.int .i64 sh] ⟨4,0,0,0,0,0,none,0,0,0,0,0,none,0,0,1,sx,sy,sw,sh⟩:=⟨rfl⟩
    have ed:dedH a'.Ad a'.cd ds'=.row (.slice a'.Ad s'.deeds.length a'.cd) 173 16 s'.deeds.length (flat dedE ds'):=by rw[dedH,hdl']
    have e:(ds'++[(⟨4,0,0,0,0,0,none,0,0,0,0,0,none,0,0,1,sx,sy,sw,sh⟩:DedX)]).length=(s'.deeds++[(⟨4,grd0,0,0,0,[],⟨1,sx,sy,sw,sh⟩⟩:Ded)]).length:=by rw[List.length_append,List.length_append,hdl'];rfl
    refine z_tas
    refine c_beg ?_
    refine z_tas
    refine lf rfl rfl rfl (S:=[]) (fun w hw ho=>hDo w ⟨hra.h.go hw (Split.nil _)⟩) ?_
    rintro v S' ⟨u,rfl,An,cn,rfl,rfl⟩
    dsimp only[grE]
    refine z_tas
    rename_i b12 b13 b14
    refine c_drx [.blk b2 39 [.pointer (some ⟨g,0,none⟩)],.blk b14 63 [.int .i64 nw,.int .i64 nh,.int .i64 nx,.int .i64 ny,.int .i64 ns,.slice An np.length cn]] [true,true,true,true,false,true,false,false,false,false,false] [4,6,7,8,9,10] Sub.au rfl (by decide) (by decide +kernel) ?_
    repeat' (first|refine x_skip rfl rfl rfl ?_|(refine x_run rfl rfl rfl ?_ ?_;(next=>first|exact trivial|omega))|refine x_nil ?_)
    refine t_weakV ?_
    intro _
    all_goals refine z_gvx
    all_goals rw[ed]
    all_goals refine c_drx [.blk b2 39 [.pointer (some ⟨g,0,none⟩)],.blk b13 171 [.int .i64 1,.int .i64 sx,.int .i64 sy,.int .i64 sw,.int .i64 sh]] [true,true,true,true,false,true,false,false,false,false,false,false] [4,6,7,8,9,10,11] Sub.au rfl (by decide) (by decide +kernel) ?_
    repeat' (first|refine x_skip rfl rfl rfl ?_|(refine x_run rfl rfl rfl ?_ ?_;(next=>first|exact trivial|omega))|refine x_nil ?_)
    refine t_weakV ?_
    intro _
    all_goals refine z_gvx
    all_goals rename_i A4 c4
    all_goals rw[e]
    all_goals refine c_rnH (S':=[_,.row (.slice An np.length cn) 2 1 np.length (ints .i64 np),.blk b2 39 [.pointer (some ⟨g,0,none⟩)],.blk g 109 (navE { s' with g:=⟨nw,nh,nx,ny,ns,np⟩,bk:=plusL s'.bk s'.bk.b (2*costL (nw*nh)),deeds:=s'.deeds++[⟨4,grd0,0,0,0,[],⟨1,sx,sy,sw,sh⟩⟩] } { a' with Ag:=An,cg:=cn,Ad:=A4,cd:=c4 }),.row (.slice A4 (s'.deeds++[(⟨4,grd0,0,0,0,[],⟨1,sx,sy,sw,sh⟩⟩:Ded)]).length c4) 173 16 (s'.deeds++[(⟨4,grd0,0,0,0,[],⟨1,sx,sy,sw,sh⟩⟩:Ded)]).length (flat dedE (ds'++[⟨4,0,0,0,0,0,none,0,0,0,0,0,none,0,0,1,sx,sy,sw,sh⟩]))]) Sub.au ⟨rfl,_,rfl,_,{ a' with Ag:=An,cg:=cn,Ad:=A4,cd:=c4 },ds'++[⟨4,0,0,0,0,0,none,0,0,0,0,0,none,0,0,1,sx,sy,sw,sh⟩],An,cn,np,hnx,⟨q1,q2,q3,q4,q5,q6,q7⟩,e,.inr ⟨rfl,rfl,rfl⟩,by rw[dedH,e]⟩
   ·have hlay:lay1 s' = { s' with g:=⟨nw,nh,nx,ny,ns,np⟩,bk:=plusL s'.bk s'.bk.b (costL (nw*nh)),deeds:=s'.deeds++[⟨4,grd0,0,0,0,[],⟨2,sx,sy,sw,sh⟩⟩] }:=by rw[hl1];rfl
    rw[hlay]at hnx
    have iB:=bjoin_cv s'.bk (nw*nh)
    have iU:UnE dedE [.int .i64 4,.int .i64 0,.int .i64 0,.int .i64 0,.int .i64 0,.int .i64 0,.slice none 0 0,.int .i64 0,.int .i64 0,.int .i64 0,.slice none 0 0,.int .i64 2,.int .i64 sx,.int .i64 sy,.int .i64 sw,.int .i64 sh] ⟨4,0,0,0,0,0,none,0,0,0,0,0,none,0,0,2,sx,sy,sw,sh⟩:=⟨rfl⟩
    have ed:dedH a'.Ad a'.cd ds'=.row (.slice a'.Ad s'.deeds.length a'.cd) 173 16 s'.deeds.length (flat dedE ds'):=by rw[dedH,hdl']
    have e:(ds'++[(⟨4,0,0,0,0,0,none,0,0,0,0,0,none,0,0,2,sx,sy,sw,sh⟩:DedX)]).length=(s'.deeds++[(⟨4,grd0,0,0,0,[],⟨2,sx,sy,sw,sh⟩⟩:Ded)]).length:=by rw[List.length_append,List.length_append,hdl'];rfl
    refine z_tas
    refine c_beg ?_
    refine z_tas
    refine lf rfl rfl rfl (S:=[]) (fun w hw ho=>hDo w ⟨hra.h.go hw (Split.nil _)⟩) ?_
    rintro v S' ⟨u,rfl,An,cn,rfl,rfl⟩
    dsimp only[grE]
    refine z_tas
    rename_i b12 b13 b14
    refine c_drx [.blk b2 39 [.pointer (some ⟨g,0,none⟩)],.blk b14 63 [.int .i64 nw,.int .i64 nh,.int .i64 nx,.int .i64 ny,.int .i64 ns,.slice An np.length cn]] [true,true,true,true,false,true,false,false,false,false,false] [4,6,7,8,9,10] Sub.au rfl (by decide) (by decide +kernel) ?_
    repeat' (first|refine x_skip rfl rfl rfl ?_|(refine x_run rfl rfl rfl ?_ ?_;(next=>first|exact trivial|omega))|refine x_nil ?_)
    refine t_weakV ?_
    intro _
    all_goals refine z_gvx
    all_goals rw[ed]
    all_goals refine c_drx [.blk b2 39 [.pointer (some ⟨g,0,none⟩)],.blk b13 171 [.int .i64 2,.int .i64 sx,.int .i64 sy,.int .i64 sw,.int .i64 sh]] [true,true,true,true,false,true,false,false,false,false,false,false] [4,6,7,8,9,10,11] Sub.au rfl (by decide) (by decide +kernel) ?_
    repeat' (first|refine x_skip rfl rfl rfl ?_|(refine x_run rfl rfl rfl ?_ ?_;(next=>first|exact trivial|omega))|refine x_nil ?_)
    refine t_weakV ?_
    intro _
    all_goals refine z_gvx
    all_goals rename_i A4 c4
    all_goals rw[e]
    all_goals refine c_rnH (S':=[_,.row (.slice An np.length cn) 2 1 np.length (ints .i64 np),.blk b2 39 [.pointer (some ⟨g,0,none⟩)],.blk g 109 (navE { s' with g:=⟨nw,nh,nx,ny,ns,np⟩,bk:=plusL s'.bk s'.bk.b (costL (nw*nh)),deeds:=s'.deeds++[⟨4,grd0,0,0,0,[],⟨2,sx,sy,sw,sh⟩⟩] } { a' with Ag:=An,cg:=cn,Ad:=A4,cd:=c4 }),.row (.slice A4 (s'.deeds++[(⟨4,grd0,0,0,0,[],⟨2,sx,sy,sw,sh⟩⟩:Ded)]).length c4) 173 16 (s'.deeds++[(⟨4,grd0,0,0,0,[],⟨2,sx,sy,sw,sh⟩⟩:Ded)]).length (flat dedE (ds'++[⟨4,0,0,0,0,0,none,0,0,0,0,0,none,0,0,2,sx,sy,sw,sh⟩]))]) Sub.au ⟨rfl,_,rfl,_,{ a' with Ag:=An,cg:=cn,Ad:=A4,cd:=c4 },ds'++[⟨4,0,0,0,0,0,none,0,0,0,0,0,none,0,0,2,sx,sy,sw,sh⟩],An,cn,np,hnx,⟨q1,q2,q3,q4,q5,q6,q7⟩,e,.inr ⟨rfl,rfl,rfl⟩,by rw[dedH,e]⟩
   ·have hlay:lay1 s' = { s' with g:=⟨nw,nh,nx,ny,ns,np⟩,bk:=plusL s'.bk (scaledL s'.bk.b 1 sm2 kp) (costL (nw*nh)),deeds:=s'.deeds++[⟨4,grd0,0,0,0,[],⟨3,sx,sy,sw,sh⟩⟩] }:=by rw[hl1];rfl
    rw[hlay]at hnx
    have iB:=bcut_cv s'.bk (nw*nh) sm2 kp
    have iU:UnE dedE [.int .i64 4,.int .i64 0,.int .i64 0,.int .i64 0,.int .i64 0,.int .i64 0,.slice none 0 0,.int .i64 0,.int .i64 0,.int .i64 0,.slice none 0 0,.int .i64 3,.int .i64 sx,.int .i64 sy,.int .i64 sw,.int .i64 sh] ⟨4,0,0,0,0,0,none,0,0,0,0,0,none,0,0,3,sx,sy,sw,sh⟩:=⟨rfl⟩
    have ed:dedH a'.Ad a'.cd ds'=.row (.slice a'.Ad s'.deeds.length a'.cd) 173 16 s'.deeds.length (flat dedE ds'):=by rw[dedH,hdl']
    have e:(ds'++[(⟨4,0,0,0,0,0,none,0,0,0,0,0,none,0,0,3,sx,sy,sw,sh⟩:DedX)]).length=(s'.deeds++[(⟨4,grd0,0,0,0,[],⟨3,sx,sy,sw,sh⟩⟩:Ded)]).length:=by rw[List.length_append,List.length_append,hdl'];rfl
    refine z_tas
    refine c_beg ?_
    refine z_tas
    refine lf rfl rfl rfl (S:=[]) (fun w hw ho=>hDo w ⟨hra.h.go hw (Split.nil _)⟩) ?_
    rintro v S' ⟨u,rfl,An,cn,rfl,rfl⟩
    dsimp only[grE]
    refine z_tas
    rename_i b12 b13 b14
    refine c_drx [.blk b2 39 [.pointer (some ⟨g,0,none⟩)],.blk b14 63 [.int .i64 nw,.int .i64 nh,.int .i64 nx,.int .i64 ny,.int .i64 ns,.slice An np.length cn]] [true,true,true,true,false,true,false,true,true,false,false,false,false] [4,6,9,10,11,12] Sub.au rfl (by decide) (by decide +kernel) ?_
    repeat' (first|refine x_skip rfl rfl rfl ?_|(refine x_run rfl rfl rfl ?_ ?_;(next=>first|exact trivial|omega))|refine x_nil ?_)
    refine t_weakV ?_
    intro _
    all_goals refine z_gvx
    all_goals rw[ed]
    all_goals refine c_drx [.blk b2 39 [.pointer (some ⟨g,0,none⟩)],.blk b13 171 [.int .i64 3,.int .i64 sx,.int .i64 sy,.int .i64 sw,.int .i64 sh]] [true,true,true,true,false,true,false,false,false,false,false,false] [4,6,7,8,9,10,11] Sub.au rfl (by decide) (by decide +kernel) ?_
    repeat' (first|refine x_skip rfl rfl rfl ?_|(refine x_run rfl rfl rfl ?_ ?_;(next=>first|exact trivial|omega))|refine x_nil ?_)
    refine t_weakV ?_
    intro _
    all_goals refine z_gvx
    all_goals rename_i A4 c4
    all_goals rw[e]
    all_goals refine c_rnH (S':=[_,.row (.slice An np.length cn) 2 1 np.length (ints .i64 np),.blk b2 39 [.pointer (some ⟨g,0,none⟩)],.blk g 109 (navE { s' with g:=⟨nw,nh,nx,ny,ns,np⟩,bk:=plusL s'.bk (scaledL s'.bk.b 1 sm2 kp) (costL (nw*nh)),deeds:=s'.deeds++[⟨4,grd0,0,0,0,[],⟨3,sx,sy,sw,sh⟩⟩] } { a' with Ag:=An,cg:=cn,Ad:=A4,cd:=c4 }),.row (.slice A4 (s'.deeds++[(⟨4,grd0,0,0,0,[],⟨3,sx,sy,sw,sh⟩⟩:Ded)]).length c4) 173 16 (s'.deeds++[(⟨4,grd0,0,0,0,[],⟨3,sx,sy,sw,sh⟩⟩:Ded)]).length (flat dedE (ds'++[⟨4,0,0,0,0,0,none,0,0,0,0,0,none,0,0,3,sx,sy,sw,sh⟩]))]) Sub.au ⟨rfl,_,rfl,_,{ a' with Ag:=An,cg:=cn,Ad:=A4,cd:=c4 },ds'++[⟨4,0,0,0,0,0,none,0,0,0,0,0,none,0,0,3,sx,sy,sw,sh⟩],An,cn,np,hnx,⟨q1,q2,q3,q4,q5,q6,q7⟩,e,.inr ⟨rfl,rfl,rfl⟩,by rw[dedH,e]⟩
  ·rintro d i S1 hi hC hend ⟨s',a',ds',Ax,cx,xs,hI,⟨q1,q2,q3,q4,q5,q6,q7⟩,hdl',hx,rfl⟩
   have hfin:layN 4 s1=s':=by
    rw[← hI.lay]
    rcases hend with rfl|h0
    ·rfl
    ·exact layN_stop _ _ (by rw[hI.g];exact h0)
   rw[hfin]
   have hgi:=hI.g
   clear hI0 hI
   rcases hx with⟨rfl,hx1,hx2⟩ | ⟨rfl,rfl,rfl⟩
   ·have hgp:s'.g=s1.g:=hgi
    refine z_tas
    refine j_outMS (Ds:=[d]) (S':=.row (.slice A2 s1.g.p.length c2) 2 1 s1.g.p.length (ints .i64 s1.g.p)::.blk g 109 (navE s' a')::dedH a'.Ad a'.cd ds'::K.H c1) (S2:=.blk b4 58 [.bool false,.bool false,.bool false,.bool false,.bool false,.bool true,.bool false,.bool false,.bool false]::.row (.slice A2 s1.g.p.length c2) 2 1 s1.g.p.length (ints .i64 s1.g.p)::.blk g 109 (navE s' a')::dedH a'.Ad a'.cd ds'::K.H c1) ?_ ?_ ?_
    ·show Sub (.blk b4 58 [.bool false,.bool false,.bool false,.bool false,.bool false,.bool true,.bool false,.bool false,.bool false]::.row (.slice A2 s1.g.p.length c2) 2 1 s1.g.p.length (ints .i64 s1.g.p)::.blk g 109 (navE s' a')::dedH a'.Ad a'.cd ds'::K.HC c1 [.obj d (.deferred (some []))]) _
     exact Sub.au
    ·exact Sub.au
    ·refine z_rk
     exact⟨rfl,c1,a',ds',A2,c2,s1.g.p,hk1,⟨q1,q2,q3,q4,q5,q6,q7⟩,hdl',.inl (by rw[hx1,hx2,hgp]),rfl⟩
   ·refine z_tas
    refine j_outMS (Ds:=[d]) (S':=.row (.slice a'.Ag s'.g.p.length a'.cg) 2 1 s'.g.p.length (ints .i64 s'.g.p)::.blk g 109 (navE s' a')::dedH a'.Ad a'.cd ds'::K.H c1) (S2:=.blk b4 58 [.bool false,.bool false,.bool false,.bool false,.bool false,.bool true,.bool false,.bool false,.bool false]::.row (.slice a'.Ag s'.g.p.length a'.cg) 2 1 s'.g.p.length (ints .i64 s'.g.p)::.blk g 109 (navE s' a')::dedH a'.Ad a'.cd ds'::K.H c1) ?_ ?_ ?_
    ·show Sub (.blk b4 58 [.bool false,.bool false,.bool false,.bool false,.bool false,.bool true,.bool false,.bool false,.bool false]::.row (.slice a'.Ag s'.g.p.length a'.cg) 2 1 s'.g.p.length (ints .i64 s'.g.p)::.blk g 109 (navE s' a')::dedH a'.Ad a'.cd ds'::K.HC c1 [.obj d (.deferred (some []))]) _
     exact Sub.au
    ·exact Sub.au
    ·refine z_rk
     exact⟨rfl,c1,a',ds',_,_,_,hk1,⟨q1,q2,q3,q4,q5,q6,q7⟩,hdl',.inl rfl,rfl⟩
end Go.Proofs.YthajpemlpmlefaaGreat
