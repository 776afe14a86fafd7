import Derived.Test.YthajpemlpmlefaaGreatP48
import Derived.Test.YthajpemlpmlefaaGreatP49
set_option maxHeartbeats 512000000
set_option maxRecDepth 4000
set_option linter.unusedVariables false
set_option linter.unusedSimpArgs false
namespace Go.Proofs.YthajpemlpmlefaaGreat
open Go.RowKit
attribute [local irreducible] OJ J HdJ Code.wpIn wpListIn Oper.wpIn bodyPost CallsIn Does
theorem inputs_any(g:Nat)(s:NavS)(a:NvA)(w:World)(hown:Own [.blk g 109 (navE s a)] w)(hL:NvL s)(hi:RoA w (blocks [.blk g 109 (navE s a)]) a.Ai s.ins.length a.ci 9 (flat inpE s.ins))(hm:RoA w (blocks [.blk g 109 (navE s a)]) a.Am s.modes.length a.cm 1 (ints .i64 s.modes))(hb:s.ins.length≤100000000∧s.modes.length≤100000000):
  Does Tryz.prog 13 [.pointer (some ⟨g,0,none⟩)] [.blk g 109 (navE s a)] w
   (fun v S'=>∃A1 c1 A2 c2,v=.tuple #[.slice A1 s.ins.length c1,.slice A2 s.modes.length c2]∧S'=[insH A1 c1 s.ins,mdsH A2 c2 s.modes,.blk g 109 (navE s a)]):=by
 have i1:=nv_p hL
 have i2:=nv_w hL
 refine does_of Tryz.func13 rfl Tryz.ntmps13 rfl hown (fun _=>?_)
 simp only[slots]
 refine z_tas
 refine c_drx [.blk g 109 (navE s a)] [false,true,true,true,true,false,false,true,true,true,true,false,false,false] [0,5,6,11,12,13] Sub.au rfl (by decide) (by decide +kernel) ?_
 repeat' (first|refine x_skip rfl rfl rfl ?_|(refine x_run rfl rfl rfl ?_ ?_;(next=>first|exact trivial|omega))|refine x_nil ?_)
 refine t_weakV ?_
 intro _
 refine z_gvx
 all_goals first|(rename_i A1 c1 A2 c2;exact j_out2 (S':=[insH A1 c1 s.ins,mdsH A2 c2 s.modes,.blk g 109 (navE s a)]) rfl rfl rfl Sub.au ⟨A1,c1,A2,c2,rfl,rfl⟩)|(rename_i A2 c2 A1 c1;exact j_out2 (S':=[insH A1 c1 s.ins,mdsH A2 c2 s.modes,.blk g 109 (navE s a)]) rfl rfl rfl Sub.au ⟨A1,c1,A2,c2,rfl,rfl⟩)|(rename_i A1 c1 bb A2 c2;exact j_out2 (S':=[insH A1 c1 s.ins,mdsH A2 c2 s.modes,.blk g 109 (navE s a)]) rfl rfl rfl Sub.au ⟨A1,c1,A2,c2,rfl,rfl⟩)|(rename_i A2 c2 bb A1 c1;exact j_out2 (S':=[insH A1 c1 s.ins,mdsH A2 c2 s.modes,.blk g 109 (navE s a)]) rfl rfl rfl Sub.au ⟨A1,c1,A2,c2,rfl,rfl⟩)
theorem gridat_any(g:Nat)(s:NavS)(a:NvA)(w:World)(hown:Own [.blk g 109 (navE s a)] w)(hL:NvL s):
  Does Tryz.prog 16 [.pointer (some ⟨g,0,none⟩)] [.blk g 109 (navE s a)] w
   (fun v S'=>v=.tuple #[.agg (if holdsN s.mode=true then grE s.g a.Ag a.cg else grN).toArray,.bool (holdsN s.mode)]∧S'=[.blk g 109 (navE s a)]):=by
 have i1:=nv_p hL
 have i2:=nv_w hL
 have i3:=holds_cv s.mode
 unfold holdsN
 refine does_of Tryz.func16 rfl Tryz.ntmps16 rfl hown (fun _=>?_)
 simp only[slots]
 by_cases hd:s.mode=2∨s.mode=3
 ·rw[decide_eq_true hd]at i3 ⊢
  refine z_tas
  refine j_outK (S':=[.blk g 109 (navE s a)]) Sub.au ?_
  refine z_rk
  exact⟨rfl,rfl⟩
 ·rw[decide_eq_false hd]at i3 ⊢
  refine z_tas
  refine j_outK (S':=[.blk g 109 (navE s a)]) Sub.au ?_
  refine z_rk
  exact⟨rfl,rfl⟩
theorem deeds_any(g:Nat)(s:NavS)(a:NvA)(ds:List DedX)(w:World)(hown:Own [.blk g 109 (navE s a)] w)(hL:NvL s)(hd:ds.length=s.deeds.length)(hr:RoA w (blocks [.blk g 109 (navE s a)]) a.Ad ds.length a.cd 16 (flat dedE ds))(hb:ds.length≤100000000)(hh:holdsN s.mode=true):
  Does Tryz.prog 31 [.pointer (some ⟨g,0,none⟩)] [.blk g 109 (navE s a)] w
   (fun v S'=>∃A1 c1,v=.slice A1 ds.length c1∧S'=[dedH A1 c1 ds,.blk g 109 (navE s a)]):=by
 have i1:=nv_p hL
 have i2:=nv_w hL
 have hG:=fun w ho=>gridat_any g s a w ho hL
 rw[hh]at hG
 rw[hd]at hr ⊢
 refine does_of Tryz.func31 rfl Tryz.ntmps31 rfl hown (fun _=>?_)
 simp only[slots]
 refine z_tas
 refine lf rfl rfl rfl (S:=[.blk g 109 (navE s a)]) (fun w hw ho=>hG w ho) ?_
 rintro v S' ⟨rfl,rfl⟩
 rw[if_pos rfl]
 refine z_tas
 rename_i A1 c1
 exact j_out1 (S':=[dedH A1 c1 ds,.blk g 109 (navE s a)]) rfl rfl Sub.au ⟨A1,c1,by rw[hd],rfl⟩
def f27:List Int:=(List.range 576).map fun i=>((i*i%401:Nat):Int)
def c27:Cnf:=⟨5000,1048576,0,1048576,255,640,4,3,8,3,⟨3000,400,5⟩,2,256,64,2,0,1,1,1,500,20⟩
def z27(i:Nat):Int:=f27.getD (9*24+9+i) 0*16
def fr27:List Frm:=⟨5,1,1,1,0,0⟩::((List.range 3).flatMap fun (i:Nat)=>([⟨3,3*(i:Int)+2,10,z27 i+800,0,0⟩,⟨2,3*(i:Int)+3,10,800,0,0⟩,⟨1,3*(i:Int)+4,10,256,0,0⟩]:List Frm))
def st27(k:Nat):NavS:=(fr27.take k).foldl (fun s x=>(takeN 24 24 f27 s x).1) (newN c27 2048 2048)
theorem w27_1:(st27 1).mode=1∧(takeN 24 24 f27 (newN c27 2048 2048) (fr27.getD 0 default)).2.length=1:=by decide +kernel
theorem st27_s{k:Nat}(h:k<10):st27 (k+1)=(takeN 24 24 f27 (st27 k) (fr27.getD k default)).1:=by
 rcases(show k=0∨k=1∨k=2∨k=3∨k=4∨k=5∨k=6∨k=7∨k=8∨k=9 by omega) with rfl|rfl|rfl|rfl|rfl|rfl|rfl|rfl|rfl|rfl<;>rfl
theorem w27_e:(st27 10).mode=2∧3<(st27 10).deeds.length∧5<(st27 10).modes.length∧(st27 10).x=2816∧(st27 10).y=2048∧0<(st27 10).bk.b∧flagsN (st27 10)=0:=by decide +kernel
theorem c27_ok:cnfC c27=0:=by decide +kernel
theorem f27_in:f27.length=576∧∀x∈f27,-32768≤x∧x≤32767:=by decide +kernel
instance rnext_cv(m:Int)(i:Inp):CV Tryz.prog 14 [.int .i64 m,.agg (inpE i).toArray] (.tuple #[.int .i64 (nextN m i).1,.int .i64 (nextN m i).2]) True:=⟨fun _ w=>by
 have hN:nextN m i=if m<0∨4<m∨i.broken=true∨m=4 then (4,0)else if i.stop=true then (0,3)else if m=0 then (if i.start=true then (1,1)else (0,0))else if m=1 then (if i.clear=true then (2,2)else if i.tried=true then (0,3)else (1,0))else (if i.over=true∨i.lost=true then (1,1)else if i.found=true then (2,0)else if i.missed=true then (3,0)else (m,0)):=rfl
 generalize nextN m i=v at *
 obtain⟨a,b,c,d,e,f,g,h,o⟩:=i
 dsimp only at hN ⊢
 by_cases hm:m=0∨m=1∨m=2∨m=3
 ·refine does_of Tryz.func14 rfl Tryz.ntmps14 rfl ⟨by simp,.nil⟩ (fun n=>?_)
  simp only[slots]
  rcases hm with rfl|rfl|rfl|rfl
  all_goals refine z_tas
  all_goals (refine z_ro;subst hN;(try simp_all);first|done|exact⟨rfl,rfl⟩|rfl)
 ·rw[if_pos (by omega)]at hN
  subst hN
  refine does_of Tryz.func14 rfl Tryz.ntmps14 rfl ⟨by simp,.nil⟩ (fun n=>?_)
  simp only[slots]
  refine z_tas
  all_goals first
   | (exfalso;omega)
   | (refine z_ro;exact⟨rfl,rfl⟩)⟩
end Go.Proofs.YthajpemlpmlefaaGreat
