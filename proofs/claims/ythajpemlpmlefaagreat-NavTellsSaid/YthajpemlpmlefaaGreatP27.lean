import Derived.Test.YthajpemlpmlefaaGreatP25
import Derived.Test.YthajpemlpmlefaaGreatP26
set_option maxHeartbeats 512000000
set_option maxRecDepth 4000
set_option linter.unusedVariables false
set_option linter.unusedSimpArgs false
namespace Go.Proofs.YthajpemlpmlefaaGreat
open Go.RowKit
def pkTo(p:List Int):Nat→Int×Int
 | 0=>(-1,0)
 | i+1=>if (pkTo p i).2<p.getD i 0 then ((i:Int),p.getD i 0)else pkTo p i
attribute [local irreducible] OJ J HdJ Code.wpIn wpListIn Oper.wpIn bodyPost CallsIn Does
theorem peak_any(g:Grd)(A:Option Addr)(c:Nat)(w:World)(hr:RoA w (blocks []) A g.p.length c 1 (ints .i64 g.p))(hm:g.p.length≤1000000):
  Does Tryz.prog 85 [.agg (grE g A c).toArray] [] w (fun v S'=>v=.int .i64 (pkTo g.p g.p.length).1∧S'=[]):=by
 obtain⟨gw,gh,gx,gy,gs,p⟩:=g
 dsimp only at hr hm ⊢
 dsimp only[grE]
 refine does_of Tryz.func85 rfl Tryz.ntmps85 rfl ⟨by simp,.nil⟩ (fun n=>?_)
 simp only[slots]
 refine z_tas
 refine c_loop (X:=Nat) (fun i=>i≤p.length) (fun i=>[(3,.int .i64 (pkTo p i).1),(4,.int .i64 (pkTo p i).2),(8,.slice A p.length c),(9,.int .i64 p.length),(10,.int .i64 i)]) (fun _=>[]) (fun i=>p.length-i) 0 (Nat.zero_le _) ⟨rfl,rfl,rfl,rfl,rfl,trivial⟩ (.nil _) ?_
 intro i hi
 rcases Nat.lt_or_ge i p.length with h|h
 ·obtain⟨bA,oA,rfl,hRA⟩:=hr.at_ (by omega:0<p.length)
  have e:pkTo p (i+1)=if (pkTo p i).2<p.getD i 0 then ((i:Int),p.getD i 0)else pkTo p i:=rfl
  generalize pkTo p i=q at *
  refine z_tas
  ·rw[if_pos (by assumption)]at e
   exact c_round (i+1) h (by show p.length-(i+1)<p.length-i;omega) ⟨by rw[e];rfl,by rw[e];rfl,rfl,rfl,by simp[look],trivial⟩ (.nil _)
  ·rw[if_neg (by assumption)]at e
   exact c_round (i+1) h (by show p.length-(i+1)<p.length-i;omega) ⟨by rw[e];rfl,by rw[e];rfl,rfl,rfl,by simp[look],trivial⟩ (.nil _)
 ·obtain rfl:i=p.length:=by omega
  refine z_tas
  exact j_out1 rfl rfl (.nil _) ⟨rfl,rfl⟩
theorem gcheck_any(g:Grd)(A:Option Addr)(c:Nat)(w:World)(hr:RoA w (blocks []) A g.p.length c 1 (ints .i64 g.p))(hs:sidesOk g.w g.h g.st)(hl:(g.p.length:Int)=g.w*g.h)(hp:Pos30 g.p)(h1:1073741824-(g.p.length:Int)≤sumL g.p g.p.length)(h2:sumL g.p g.p.length≤1073741824):
  Does Tryz.prog 30 [.agg (grE g A c).toArray] [] w (fun v S'=>v=.int .i64 0∧S'=[]):=by
 obtain⟨gw,gh,gx,gy,gs,p⟩:=g
 dsimp only at hr hs hl hp h1 h2 ⊢
 dsimp only[grE]
 obtain⟨⟨a1,a2⟩,⟨a3,a4⟩,a5,a6⟩:=hs
 have hm:=mul_in (a:=gw) (b:=gh) (A:=64) (B:=64) (by omega) (by omega)
 have hsi:=fun n hn=>sumL_in (l:=p) (B:=1073741824) hp n hn
 have iM:∀w0 W H t u a b,MS Tryz.prog w0 W H (.binOp .mul t a b u) [.int .i64 gw,.int .i64 gh] (.int .i64 (p.length:Int)) True:=fun _ _ _ _ _ _ _=>msM inferInstance (by show (-9223372036854775808:Int)≤_∧_≤(9223372036854775807:Int);omega) (by rw[hl])
 have iL:=glen_cv gw gh gx gy gs A p.length c
 rw[← hl]at iL hm
 clear hl
 refine does_of Tryz.func30 rfl Tryz.ntmps30 rfl ⟨by simp,.nil⟩ (fun n=>?_)
 simp only[slots]
 refine z_tas
 rename_i b1 _ _ _ _ _ _
 refine c_loop (X:=Nat) (fun i=>i≤p.length) (fun i=>[(1,.pointer (some ⟨b1,0,none⟩)),(3,.int .i64 (sumL p i)),(46,.slice A p.length c),(47,.int .i64 p.length),(48,.int .i64 i)]) (fun _=>[.blk b1 63 [.int .i64 gw,.int .i64 gh,.int .i64 gx,.int .i64 gy,.int .i64 gs,.slice A p.length c]]) (fun i=>p.length-i) 0 (Nat.zero_le _) ⟨rfl,rfl,rfl,rfl,rfl,trivial⟩ Sub.au ?_
 intro i hi
 rcases Nat.lt_or_ge i p.length with h|h
 ·obtain⟨bA,oA,rfl,hRA⟩:=hr.at_ (by omega:0<p.length)
  have e:sumL p (i+1)=sumL p i+p.getD i 0:=rfl
  have hs1:=hsi i hi
  have hpi:=hp i h
  clear hsi h1 h2
  generalize sumL p i=s at *
  refine z_tas
  exact c_round (i+1) h (by show p.length-(i+1)<p.length-i;omega) ⟨rfl,by rw[e];rfl,rfl,rfl,by simp[look],trivial⟩ Sub.au
 ·obtain rfl:i=p.length:=by omega
  refine z_tas
  exact j_out1 rfl rfl (.nil _) ⟨rfl,rfl⟩
theorem weigh_zero(g:Grd)(A:Option Addr)(c:Nat)(Al:Option Addr)(cl:Nat)(l:List Int)(w:World)(hr:RoA w (blocks []) A g.p.length c 1 (ints .i64 g.p))(hrl:RoA w (blocks []) Al l.length cl 1 (ints .i64 l))(hp:Pos30 g.p)(hw:Wt l)(he:l.length=g.p.length)(hn:0<g.p.length∧g.p.length≤4096)(hz0:wsTo g.p l g.p.length=0):
  Does Tryz.prog 134 [.agg (grE g A c).toArray,.slice Al l.length cl] [] w
   (fun v S'=>∃u2 u3,v=.tuple #[.agg (grE g A c).toArray,u2,u3,.int .i64 7]∧S'=[]):=by
 obtain⟨gw,gh,gx,gy,gs,p⟩:=g
 dsimp only at hr hp he hn hz0 ⊢
 dsimp only[grE]
 have hws:=ws_in hp hw he
 have hmo:=most_in hw
 obtain⟨bA,oA,rfl,hRA⟩:=hr.at_ hn.1
 obtain⟨bL,oL,rfl,hRL⟩:=hrl.at_ (by omega:0<l.length)
 refine does_of Tryz.func134 rfl Tryz.ntmps134 rfl ⟨by simp,.nil⟩ (fun n=>?_)
 simp only[slots]
 refine z_tas
 rename_i b2 b4 b5 _ b8
 refine c_loop (X:=Nat) (fun i=>i≤p.length) (fun i=>[(1,.slice (some ⟨bL,oL,none⟩) l.length cl),(2,.pointer (some ⟨b2,0,none⟩)),(4,.pointer (some ⟨b4,0,none⟩)),(5,.pointer (some ⟨b5,0,none⟩)),(8,.pointer (some ⟨b8,0,none⟩)),(9,.int .i64 (mostTo l i)),(25,.slice (some ⟨bA,oA,none⟩) p.length c),(26,.int .i64 p.length),(27,.int .i64 i)])
  (fun i=>[.blk b8 238 (wideV (wsTo p l i)),.blk b5 238 [.int .i64 0,.int .u64 0],.blk b4 63 grN,.blk b2 63 [.int .i64 gw,.int .i64 gh,.int .i64 gx,.int .i64 gy,.int .i64 gs,.slice (some ⟨bA,oA,none⟩) p.length c]]) (fun i=>p.length-i) 0 (Nat.zero_le _) ⟨rfl,rfl,rfl,rfl,rfl,rfl,rfl,rfl,rfl,trivial⟩ (by show Sub [.blk b8 238 [.int .i64 0,.int .u64 0],_,_,_] _;exact Sub.au) ?_
 intro i hi
 rcases Nat.lt_or_ge i p.length with h|h
 ·have e1:wsTo p l (i+1)=wsTo p l i+p.getD i 0*l.getD i 0:=rfl
  have e2:mostTo l (i+1)=max (mostTo l i) (l.getD i 0):=rfl
  have hpi:=hp i h
  have hli:=hw i (by omega)
  have hmu:=mul_in hpi hli
  have hwsi:=hws i hi
  have hmi:=hmo i (by omega)
  clear hws hmo hz0
  generalize wsTo p l i=ws at *
  generalize mostTo l i=mo at *
  refine z_tas
  refine c_dvL [] (0::1::2::3::4::5::6::7::8::9::10::11::[]) (.nil _) ?_;intro _
  refine z_govG
  all_goals
   refine c_round (i+1) h (by show p.length-(i+1)<p.length-i;omega) ⟨rfl,rfl,rfl,rfl,rfl,by rw[e2];rfl,rfl,rfl,by simp[look],trivial⟩ ?_
   simp only[e1]
   exact Sub.au
 ·obtain rfl:i=p.length:=by omega
  rw[hz0]
  have iS:=signw_cv 0
  rw[if_neg (by decide),if_pos rfl]at iS
  refine z_tas
  refine c_dvL _ (0::1::2::3::4::5::6::[]) (Sub.cons (.here _ _) (Sub.cons (.there _ (.there _ (.here _ _))) (Sub.nil _))) ?_
  intro _
  refine z_gvs
  all_goals
   refine j_outK (.nil _) ?_
   refine z_rk
   exact⟨_,_,rfl,rfl⟩
end Go.Proofs.YthajpemlpmlefaaGreat
namespace Go.Proofs.YthajpemlpmlefaaGreat
open Go.RowKit
def X0(x far step:Int):Int:=IntKind.i64.wrap (x-IntKind.i64.wrap (far*step))
def evS(s:Sch):Grd:=evenG (2*s.far+1) (2*s.far+1) (X0 s.x s.far s.step) (X0 s.y s.far s.step) s.step
def wtS(W H:Nat)(f:List Int)(s:Sch)(l:List Smp)(m times:Int):List Int:=wtTo (sideN s.far*sideN s.far) s.far (cbTo (allL W H f s l m) (allL W H f s l m).length).cost times (allL W H f s l m) (allL W H f s l m).length
def mkC(W H:Nat)(f:List Int)(s:Sch)(l:List Smp)(m times:Int):Int:=if chk21 s l≠0 then chk21 s l else if ¬sidesOk (2*s.far+1) (2*s.far+1) s.step then 2 else if (allL W H f s l m).length=0 then 7 else if wsTo (evS s).p (wtS W H f s l m times) (evS s).p.length=0 then 7 else 0
def mkG(W H:Nat)(f:List Int)(s:Sch)(l:List Smp)(m times:Int):Grd:={ evS s with p:=wghL (evS s).p (wtS W H f s l m times) }
theorem evS_p{s:Sch}(hf:0≤s.far):(evS s).p=tab (fun _=>1073741824/((sideN s.far*sideN s.far:Nat):Int)) (sideN s.far*sideN s.far):=by
 have hs:(2*s.far+1)*(2*s.far+1)=((sideN s.far*sideN s.far:Nat):Int):=by
  have:((sideN s.far:Nat):Int)=2*s.far+1:=by unfold sideN;omega
  rw[← this]
  push_cast
  rfl
 show evenL ((2*s.far+1)*(2*s.far+1)).toNat=_
 rw[hs,Int.toNat_natCast]
 rfl
theorem evS_len{s:Sch}(hf:0≤s.far):(evS s).p.length=sideN s.far*sideN s.far:=by rw[evS_p hf,tab_len]
theorem evS_pos{s:Sch}(hf:0≤s.far)(hN:sideN s.far*sideN s.far≤4096):Pos30 (evS s).p∧∀i,i<(evS s).p.length→(evS s).p.getD i 0=1073741824/((sideN s.far*sideN s.far:Nat):Int):=by
 have hp:0<sideN s.far*sideN s.far:=Nat.mul_pos (by unfold sideN;omega) (by unfold sideN;omega)
 have h1:=even_pos ⟨hp,hN⟩
 have key:∀i,i<(evS s).p.length→(evS s).p.getD i 0=1073741824/((sideN s.far*sideN s.far:Nat):Int):=fun i hi=>by
  rw[evS_len hf]at hi
  rw[evS_p hf]
  exact even_get hi
 exact⟨fun i hi=>by rw[key i hi];omega,key⟩
theorem side_le{s:Sch}(h:sidesOk (2*s.far+1) (2*s.far+1) s.step):0≤s.far∧s.far≤31∧sideN s.far*sideN s.far≤4096∧0<sideN s.far*sideN s.far:=by
 obtain⟨⟨h1,h2⟩,-⟩:=h
 have h3:sideN s.far≤63:=by unfold sideN;omega
 have:=Nat.mul_le_mul h3 h3
 exact⟨by omega,by omega,by omega,Nat.mul_pos (by unfold sideN;omega) (by unfold sideN;omega)⟩
theorem evenS_any(s:Sch)(w:World)(hok:sidesOk (2*s.far+1) (2*s.far+1) s.step):Does Tryz.prog 181 [.int .i64 (2*s.far+1),.int .i64 (2*s.far+1),.int .i64 (X0 s.x s.far s.step),.int .i64 (X0 s.y s.far s.step),.int .i64 s.step] [] w (fun v S'=>∃u,v=.tuple #[u,.int .i64 0]∧GrR (evS s) u S'):=even_any _ _ _ _ _ w hok
theorem sat_any(b6 b15:Nat)(s:Sch)(x:Stp)(hx:(-s.far≤x.i∧x.i≤s.far)∧(-s.far≤x.k∧x.k≤s.far))(hs:0≤s.far∧s.far≤32)(w:World)(ho:Own [.blk b6 226 (schE s),.blk b15 3 [.int .i64 (2*s.far+1)]] w):Does Tryz.prog 182 [.agg (stpE x).toArray,.pointer (some ⟨b6,0,none⟩),.pointer (some ⟨b15,0,none⟩)] [.blk b6 226 (schE s),.blk b15 3 [.int .i64 (2*s.far+1)]] w
  (fun v S'=>v=.int .i64 (ixS s.far x.i x.k:Nat)∧S'=[.blk b6 226 (schE s),.blk b15 3 [.int .i64 (2*s.far+1)]]):=by
 obtain⟨-,-,e⟩:=ixS_ok hx
 have hm:=mulB 64 65 (a:=x.k+s.far) (b:=2*s.far+1) (by omega) (by omega)
 refine does_of Tryz.func182 rfl Tryz.ntmps182 rfl ho (fun n=>?_)
 simp only[slots]
 refine z_tas
 refine j_out1 rfl rfl Sub.au ⟨?_,rfl⟩
 rw[e]
instance:ZC .nilFunc [.nilFunc]:=⟨rfl⟩
instance:NoAgg (Tryz.t296.desc):=⟨by kernel_rfl⟩
attribute [local irreducible] OJ J HdJ Code.wpIn wpListIn Oper.wpIn bodyPost CallsIn Does
theorem smake_t(K:CaT)(s0:CaV)(f:List Int)(s:Sch)(Al:Option Addr)(cl:Nat)(l:List Smp)(m times b:Int)(w:World)(hown:Own (K.H s0) w)(hF:CaF K.ys f K.room)(hk0:CaOk K.ys f K.room s0 b)(hb:b≤500000000000000000)
  (hr:RoA w (blocks (K.H s0)) Al l.length cl 3 (flat smpE l)) (hm:l.length≤1000000) (ht:InR .i64 times) :
  Does Tryz.prog 131 [.pointer (some ⟨K.g,0,none⟩),.agg (schE s).toArray,.slice Al l.length cl,.int .i64 m,.int .i64 times] (K.H s0) w
   (fun v S'=>∃s',CaOk K.ys f K.room s' (b+3244800) ∧
    ((mkC (wY K.ys) (hY K.ys) f s l m times≠0∧v=.tuple #[.agg (grN).toArray,.agg (stpE ⟨0,0,-1⟩).toArray,.int .i64 (mkC (wY K.ys) (hY K.ys) f s l m times)]∧S'=K.H s') ∨
    (mkC (wY K.ys) (hY K.ys) f s l m times=0∧∃A c,v=.tuple #[.agg (grE (mkG (wY K.ys) (hY K.ys) f s l m times) A c).toArray,.agg (stpE (cbTo (allL (wY K.ys) (hY K.ys) f s l m) (allL (wY K.ys) (hY K.ys) f s l m).length)).toArray,.int .i64 0] ∧
     S'=.row (.slice A (mkG (wY K.ys) (hY K.ys) f s l m times).p.length c) 2 1 (mkG (wY K.ys) (hY K.ys) f s l m times).p.length (ints .i64 (mkG (wY K.ys) (hY K.ys) f s l m times).p)::K.H s'))):=by
 have iM:∀w0 W H t u a b,MS Tryz.prog w0 W H (.binOp .mul t a b u) [.int .i64 s.far,.int .i64 s.step] (.int .i64 (IntKind.i64.wrap (s.far*s.step))) True:=fun _ _ _ _ _ _ _=>msW inferInstance trivial rfl
 have iX:∀w0 W H t u a b,MS Tryz.prog w0 W H (.binOp .sub t a b u) [.int .i64 s.x,.int .i64 (IntKind.i64.wrap (s.far*s.step))] (.int .i64 (X0 s.x s.far s.step)) True:=fun _ _ _ _ _ _ _=>msW inferInstance trivial rfl
 have iY:∀w0 W H t u a b,MS Tryz.prog w0 W H (.binOp .sub t a b u) [.int .i64 s.y,.int .i64 (IntKind.i64.wrap (s.far*s.step))] (.int .i64 (X0 s.y s.far s.step)) True:=fun _ _ _ _ _ _ _=>msW inferInstance trivial rfl
 have hC:mkC (wY K.ys) (hY K.ys) f s l m times=if chk21 s l≠0 then chk21 s l else if ¬sidesOk (2*s.far+1) (2*s.far+1) s.step then 2 else if (allL (wY K.ys) (hY K.ys) f s l m).length=0 then 7 else if wsTo (evS s).p (wtS (wY K.ys) (hY K.ys) f s l m times) (evS s).p.length=0 then 7 else 0:=rfl
 have hG:mkG (wY K.ys) (hY K.ys) f s l m times = { evS s with p:=wghL (evS s).p (wtS (wY K.ys) (hY K.ys) f s l m times) }:=rfl
 refine does_ofM Tryz.func131 rfl Tryz.ntmps131 rfl hown (fun n=>?_)
 simp only[slots]
 refine z_tas
 rename_i b6 b9 b10 b11 b13
 refine lfv rfl rfl rfl (fun w hw=>mcheck_any s Al cl l w ⟨hr.h.go hw (Split.nil _)⟩ hm) ?_
 by_cases hc:chk21 s l=0
 rotate_left
 ·rw[if_pos hc]at hC
  generalize chk21 s l=e at *
  refine z_tas
  refine c_dvL [.blk b13 230 [.int .i64 0,.int .i64 0,.int .i64 (-1)]] (0::1::2::3::4::5::[]) Sub.au ?_
  intro _
  refine z_gvs
  all_goals
   refine j_outMS (Ds:=[]) (S':=K.H s0) (S2:=K.HC s0 [.blk b10 63 grN,.blk b11 230 [.int .i64 0,.int .i64 0,.int .i64 (-1)]]) (by show Sub (K.HC s0 [.blk b10 63 grN,.blk b11 230 [.int .i64 0,.int .i64 0,.int .i64 (-1)]]) _;exact Sub.au) Sub.au ?_
   refine z_rk
   exact⟨s0,hk0.mono (by omega),.inl ⟨by rw[hC];exact hc,by rw[hC];rfl,rfl⟩⟩
 obtain⟨⟨⟨a1,a2⟩,⟨a3,a4⟩,⟨a5,a6⟩,a7,a8⟩,⟨l1,l2⟩,hl⟩:=chk21_ok hc
 rw[if_neg (by rw[hc];simp)]at hC
 rw[hc]
 refine z_tas
 rename_i b15
 by_cases hok:sidesOk (2*s.far+1) (2*s.far+1) s.step
 rotate_left
 ·rw[if_pos hok]at hC
  refine lf rfl rfl rfl (S:=[]) (fun w hw ho=>even_bad (2*s.far+1) (2*s.far+1) (X0 s.x s.far s.step) (X0 s.y s.far s.step) s.step w hok) ?_
  rintro v S' ⟨rfl,rfl⟩
  refine z_tas
  refine c_dvL [.blk b13 230 [.int .i64 0,.int .i64 0,.int .i64 (-1)]] (0::1::2::3::4::5::[]) Sub.au ?_
  intro _
  refine z_gvs
  all_goals
   refine j_outMS (Ds:=[]) (S':=K.H s0) (S2:=K.HC s0 [.blk b10 63 grN,.blk b11 230 [.int .i64 0,.int .i64 0,.int .i64 (-1)]]) (by show Sub (K.HC s0 [.blk b10 63 grN,.blk b11 230 [.int .i64 0,.int .i64 0,.int .i64 (-1)]]) _;exact Sub.au) Sub.au ?_
   refine z_rk
   exact⟨s0,hk0.mono (by omega),.inl ⟨by rw[hC];decide,by rw[hC];rfl,rfl⟩⟩
 obtain⟨-,q1,q2,q3⟩:=side_le hok
 rw[if_neg (by simpa using hok)]at hC
 obtain⟨hp,hpc⟩:=evS_pos a1 q2
 have hpl:=evS_len a1
 have hside:((sideN s.far:Nat):Int)=2*s.far+1:=by unfold sideN;omega
 have iSS:∀w0 W H t u a b,MS Tryz.prog w0 W H (.binOp .mul t a b u) [.int .i64 (2*s.far+1),.int .i64 (2*s.far+1)] (.int .i64 ((sideN s.far*sideN s.far:Nat):Int)) True:=fun _ _ _ _ _ _ _=>msM inferInstance (by rw[← hside,← Int.natCast_mul];show (-9223372036854775808:Int)≤_∧_≤(9223372036854775807:Int);omega) (by rw[← hside,← Int.natCast_mul])
 refine lf rfl rfl rfl (S:=[]) (fun w hw ho=>evenS_any s w hok) ?_
 rintro v S' ⟨u,rfl,Ae,ce,rfl,rfl⟩
 refine z_tas
 rename_i b17
 refine lf rfl rfl rfl (S:=K.H s0) (fun w hw ho=>mbest_t K s0 f s Al cl l m 0 b w ho hF hk0 (by omega) ⟨hr.h.go hw Split.au⟩ hm) ?_
 rintro v S' ⟨s1,k1,rfl,rfl⟩
 have hall:=fun i hi=>allL_in (W:=wY K.ys) (H:=hY K.ys) (f:=f) (s:=s) (l:=l) (m:=m) (i:=i) hi
 have hln:=allL_len (wY K.ys) (hY K.ys) f s l m
 have hwd:wtS (wY K.ys) (hY K.ys) f s l m times=wtTo (sideN s.far*sideN s.far) s.far (cbTo (allL (wY K.ys) (hY K.ys) f s l m) (allL (wY K.ys) (hY K.ys) f s l m).length).cost times (allL (wY K.ys) (hY K.ys) f s l m) (allL (wY K.ys) (hY K.ys) f s l m).length:=rfl
 have hcbi : -1≤(cbTo (allL (wY K.ys) (hY K.ys) f s l m) (allL (wY K.ys) (hY K.ys) f s l m).length).cost∧(cbTo (allL (wY K.ys) (hY K.ys) f s l m) (allL (wY K.ys) (hY K.ys) f s l m).length).cost≤4611686018427387904:=by
  obtain⟨cb1,cb2⟩:=cb_bst (l:=allL (wY K.ys) (hY K.ys) f s l m) (fun i hi=>(hall i hi).2.2.1.1) (Nat.le_refl _)
  cases hb:bstTo (allL (wY K.ys) (hY K.ys) f s l m) (allL (wY K.ys) (hY K.ys) f s l m).length with
  | none=>rw[cb1 hb];decide
  | some k=>rw[cb2 k hb];have:=(hall k (bstTo_lt hb)).2.2.1;omega
 obtain⟨cb,hcb⟩:∃x,cbTo (allL (wY K.ys) (hY K.ys) f s l m) (allL (wY K.ys) (hY K.ys) f s l m).length=x:=⟨_,rfl⟩
 rw[hcb]at hwd hcbi ⊢
 obtain⟨sc,hsc⟩:∃x,secTo (allL (wY K.ys) (hY K.ys) f s l m) cb 0 (allL (wY K.ys) (hY K.ys) f s l m).length=x:=⟨_,rfl⟩
 rw[hsc]
 refine z_tas
 ·rename_i hl0
  rw[if_pos (by omega)]at hC
  refine c_dvL [.blk b13 230 [.int .i64 0,.int .i64 0,.int .i64 (-1)]] (0::1::2::3::4::[]) Sub.au ?_
  intro _
  refine z_gvs
  all_goals
   refine j_outMS (Ds:=[]) (S':=K.H s1) (S2:=K.HC s1 [.blk b10 63 grN,.blk b11 230 [.int .i64 0,.int .i64 0,.int .i64 (-1)]]) (by show Sub (K.HC s1 [.blk b10 63 grN,.blk b11 230 [.int .i64 0,.int .i64 0,.int .i64 (-1)]]) _;exact Sub.au) Sub.au ?_
   refine z_rk
   exact⟨s1,k1.mono (by omega),.inl ⟨by rw[hC];decide,by rw[hC];rfl,rfl⟩⟩
 ·rename_i b19 hl0 bw b22 b23
  rw[if_neg (by omega)]at hC
  generalize hN:sideN s.far*sideN s.far=N at *
  refine lf rfl rfl rfl (S:=[]) (fun w hw ho=>all21_any K.g s Al l.length cl m w) ?_
  rintro v S' ⟨gs,gl,gc,gm,rfl,rfl⟩
  refine z_tas
  refine c_alls (K:=K) (s0:=s1) (s:=s) (m:=m) (b:=b+2163200) (S:=[.row (.slice (some ⟨bw,0,none⟩) N N) 2 1 N (ints .i64 (List.replicate N 0)),.blk b22 61 [.slice (some ⟨bw,0,none⟩) N N],.blk b23 296 [.func (.func 182) #[] #[.pointer (some ⟨b6,0,none⟩),.pointer (some ⟨b15,0,none⟩)]],.blk b19 230 (stpE cb),.blk b9 2 [.int .i64 times],.blk b6 226 (schE s),.blk b15 3 [.int .i64 (2*s.far+1)]])
   (fun i S=>S=[.row (.slice (some ⟨bw,0,none⟩) N N) 2 1 N (ints .i64 (wtTo N s.far cb.cost times (allL (wY K.ys) (hY K.ys) f s l m) i)),.blk b22 61 [.slice (some ⟨bw,0,none⟩) N N],.blk b23 296 [.func (.func 182) #[] #[.pointer (some ⟨b6,0,none⟩),.pointer (some ⟨b15,0,none⟩)]],.blk b19 230 (stpE cb),.blk b9 2 [.int .i64 times],.blk b6 226 (schE s),.blk b15 3 [.int .i64 (2*s.far+1)]])
   (fun _ _=>False) rfl Split.au hF k1 (by omega) hr.h hm rfl ?_ ?_ ?_
  ·rintro lp i S1 hi rfl w1 ho
   have hx:=hall i hi
   have e:wtTo N s.far cb.cost times (allL (wY K.ys) (hY K.ys) f s l m) (i+1)=(wtTo N s.far cb.cost times (allL (wY K.ys) (hY K.ys) f s l m) i).set (ixS s.far ((allL (wY K.ys) (hY K.ys) f s l m).getD i default).i ((allL (wY K.ys) (hY K.ys) f s l m).getD i default).k) (wgtF cb.cost ((allL (wY K.ys) (hY K.ys) f s l m).getD i default).cost times):=rfl
   have hwl:=wtTo_len (N:=N) (far:=s.far) (best:=cb.cost) (times:=times) (L:=allL (wY K.ys) (hY K.ys) f s l m) i
   dsimp only at hx
   generalize (allL (wY K.ys) (hY K.ys) f s l m).getD i default=x at *
   obtain⟨-,hix,hie⟩:=ixS_ok (far:=s.far) (i:=x.i) (k:=x.k) ⟨hx.2.2.2.1,hx.2.2.2.2⟩
   have hsat:=fun w ho=>sat_any b6 b15 s x ⟨hx.2.2.2.1,hx.2.2.2.2⟩ ⟨a1,a2⟩ w ho
   rw[hN]at hix
   generalize ixS s.far x.i x.k=ix at *
   generalize wtTo N s.far cb.cost times (allL (wY K.ys) (hY K.ys) f s l m) i=wr at *
   refine yields_of (N:=116) ho rfl (by simp) (fun n=>?_)
   simp only[over]
   refine z_tas
   refine c_beg ?_
   refine z_tas
   rename_i b24
   refine c_dvL [.blk b22 61 [.slice (some ⟨bw,0,none⟩) N N],.blk b23 296 [.func (.func 182) #[] #[.pointer (some ⟨b6,0,none⟩),.pointer (some ⟨b15,0,none⟩)]],.blk b19 230 (stpE cb),.blk b9 2 [.int .i64 times],.blk b24 230 (stpE x),.blk b6 226 (schE s),.blk b15 3 [.int .i64 (2*s.far+1)]] (0::1::2::3::4::5::6::7::8::9::10::11::[]) Sub.au ?_
   intro _
   refine z_gvs
   all_goals
    refine lb (f:=182) (first:=#[]) (captured:=#[.pointer (some ⟨b6,0,none⟩),.pointer (some ⟨b15,0,none⟩)]) (vs:=[.agg (stpE x).toArray]) (S:=[.blk b6 226 (schE s),.blk b15 3 [.int .i64 (2*s.far+1)]]) rfl rfl rfl rfl (fun w hw ho=>hsat w ho) ?_
    rintro v S' ⟨rfl,rfl⟩
    refine z_gvs
   all_goals
    refine c_rnH (S':=_::[.row (.slice (some ⟨bw,0,none⟩) N N) 2 1 N (ints .i64 (wtTo N s.far cb.cost times (allL (wY K.ys) (hY K.ys) f s l m) (i+1))),.blk b22 61 [.slice (some ⟨bw,0,none⟩) N N],.blk b23 296 [.func (.func 182) #[] #[.pointer (some ⟨b6,0,none⟩),.pointer (some ⟨b15,0,none⟩)]],.blk b19 230 (stpE cb),.blk b9 2 [.int .i64 times],.blk b6 226 (schE s),.blk b15 3 [.int .i64 (2*s.far+1)]]) ?_ (.inl ⟨rfl,_,rfl,rfl⟩)
    rw[e]
    exact Sub.au
  ·rintro d s2 S2 hk2 rfl
   have hwl:(wtS (wY K.ys) (hY K.ys) f s l m times).length=N:=by rw[hwd];exact wtTo_len _
   have hww:Wt (wtS (wY K.ys) (hY K.ys) f s l m times):=by rw[hwd];exact wtTo_in _
   rw[← hwd]
   clear hwd
   generalize wtS (wY K.ys) (hY K.ys) f s l m times=wt at *
   obtain rfl:N=wt.length:=hwl.symm
   refine z_tas
   by_cases hz0:wsTo (evS s).p wt (evS s).p.length=0
   ·rw[if_pos hz0]at hC
    refine lf rfl rfl rfl (S:=[]) (fun w hw ho=>weigh_zero (evS s) Ae ce (some ⟨bw,0,none⟩) wt.length wt w ⟨Ro.row hw (Split.nil _) (by refine z_hs)⟩ ⟨Ro.row hw (Split.nil _) (by refine z_hs)⟩ hp hww hpl.symm (by omega) hz0) ?_
    rintro v S' ⟨u2,u3,rfl,rfl⟩
    refine z_tas
    refine c_dvL [.blk b13 230 [.int .i64 0,.int .i64 0,.int .i64 (-1)]] (0::1::2::3::4::5::[]) Sub.au ?_
    intro _
    refine z_gvs
    all_goals
     refine j_outMS (Ds:=[d]) (S':=K.H s2) (S2:=K.HC s2 [.blk b10 63 grN,.blk b11 230 [.int .i64 0,.int .i64 0,.int .i64 (-1)]]) (by show Sub (K.HC s2 [.blk b10 63 grN,.blk b11 230 [.int .i64 0,.int .i64 0,.int .i64 (-1)],.obj d (.deferred (some []))]) _;exact Sub.au) Sub.au ?_
     refine z_rk
     exact⟨s2,hk2.mono (by omega),.inl ⟨by rw[hC];decide,by rw[hC];rfl,rfl⟩⟩
   ·rw[if_neg hz0]at hC
    have hz1:=(ws_in hp hww hpl.symm (evS s).p.length (Nat.le_refl _)).1
    refine lf rfl rfl rfl (S:=[]) (fun w hw ho=>weigh_any (evS s) Ae ce (some ⟨bw,0,none⟩) wt.length wt w ⟨Ro.row hw (Split.nil _) (by refine z_hs)⟩ ⟨Ro.row hw (Split.nil _) (by refine z_hs)⟩ hp hww hpl.symm (by omega) (by omega)) ?_
    rw[← hG]
    rintro v S' ⟨u,rfl,Ag,cg,rfl,rfl⟩
    generalize mkG (wY K.ys) (hY K.ys) f s l m times=G at *
    refine z_tas
    refine c_dvL [.blk b17 63 (grE G Ag cg),.blk b19 230 (stpE cb)] (0::1::2::3::4::[]) Sub.au ?_
    intro _
    refine z_gvs
    all_goals
     refine j_outMS (Ds:=[d]) (S':=.row (.slice Ag G.p.length cg) 2 1 G.p.length (ints .i64 G.p)::K.H s2) (S2:=.row (.slice Ag G.p.length cg) 2 1 G.p.length (ints .i64 G.p)::K.HC s2 [.blk b10 63 (grE G Ag cg),.blk b11 230 (stpE cb)]) (by show Sub (.row (.slice Ag G.p.length cg) 2 1 G.p.length (ints .i64 G.p)::K.HC s2 [.blk b10 63 (grE G Ag cg),.blk b11 230 (stpE cb),.obj d (.deferred (some []))]) _;exact Sub.au) Sub.au ?_
     refine z_rk
     exact⟨s2,hk2.mono (by omega),.inr ⟨hC,Ag,cg,rfl,rfl⟩⟩
  ·rintro d c s2 S2 hk2 h
   exact h.elim
theorem divV_up{z b:Int}(hz:0≤z)(hb:0<b):divV z b 1=(z+b-1)/b:=by
 have h1:=Int.mul_ediv_add_emod z b
 have h2:=Int.emod_nonneg z (by omega:b≠0)
 have h3:=Int.emod_lt_of_pos z hb
 have ez:absI z=z:=by unfold absI;rw[if_neg (by omega)]
 unfold divV upB
 rw[ez,decide_eq_false (by omega:¬z<0)]
 generalize z/b=q at *
 generalize z%b=r at *
 simp only[Bool.and_false,Bool.or_false,Bool.false_or,Bool.not_false,Bool.and_true,cond_false,show decide ((1:Int)=0)=false from rfl,show decide ((1:Int)=1)=true from rfl,show decide ((1:Int)=2)=false from rfl,Bool.false_and,ne_eq,decide_not]
 by_cases hr:r=0
 ·rw[if_neg (by simpa using hr)]
  exact((Int.ediv_emod_unique (r:=b-1) (q:=q+0) hb).2 ⟨by rw[Int.add_zero];omega,by omega,by omega⟩).1.symm
 ·rw[if_pos (by simpa using hr)]
  exact((Int.ediv_emod_unique (r:=r-1) (q:=q+1) hb).2 ⟨by rw[Int.mul_add,Int.mul_one];omega,by omega,by omega⟩).1.symm
def rootW(s:Int):Nat→Int
 | 0=>0
 | k+1=>if orB (rootW s k) k*orB (rootW s k) k≤s then orB (rootW s k) k else rootW s k
theorem rootW_in(s:Int):∀k,0≤rootW s k∧rootW s k<18446744073709551616
 | 0=>by simp[rootW]
 | k+1=>by
  unfold rootW
  split
  ·exact or_in _ _
  ·exact rootW_in s k
def hL:List Int:=2305843009213693952::3260954456333195553::3877950241171266237::4228934724888366667::4416165660797809418::4512867096753504462::4562008997483360348::4586780255215411730::4599216278082138664::4605446927862164403::4608565417332308034::4610125453837388244::4610905670110601998::4611295827762151832::4611490918967884500::4611588467665893035::4611637242788701949::[]
theorem hL_root:∀i,i<16→rootW (hL.getD i 0*4611686018427387904) 64=hL.getD (i+1) 0:=by decide +kernel
theorem hL_in:∀i,i<17→0≤hL.getD i 0∧hL.getD i 0≤4611686018427387904:=by decide +kernel
def expTo(x:Int):Nat→Int
 | 0=>4611686018427387904
 | i+1=>if x/2^(15-i)%2=1 then expTo x i*hL.getD (i+1) 0/4611686018427387904 else expTo x i
theorem expTo_in(x:Int):∀i,i≤16→0≤expTo x i∧expTo x i≤4611686018427387904
 | 0,_=>by simp[expTo]
 | i+1,h=>by
  have ih:=expTo_in x i (by omega)
  have h2:=hL_in (i+1) (by omega)
  rw[expTo]
  split
  ·have h3:=mul_in ih h2
   omega
  ·exact ih
def expN(x:Int):Int:=if x<0 then 0 else if 40<x/65536 then 0 else expTo x 16/1073741824/2^(x/65536).toNat
theorem expN_in(x:Int):0≤expN x∧expN x≤4294967296:=by
 unfold expN
 split
 ·decide
 split
 ·decide
 have h:=expTo_in x 16 (by omega)
 have h1:0≤expTo x 16/1073741824∧expTo x 16/1073741824≤4294967296:=by omega
 generalize expTo x 16/1073741824=a at *
 have h2:(0:Int)<2^(x/65536).toNat:=Int.pow_pos (by decide)
 exact⟨Int.ediv_nonneg h1.1 (by omega),Int.le_trans (Int.ediv_le_self _ h1.1) h1.2⟩
structure Noi where
 sig:Int
 flo:Int
 gate:Int
@[reducible] def noiE(n:Noi):List Value:=[.int .i64 n.sig,.int .i64 n.flo,.int .i64 n.gate]
def NoiOk(n:Noi):Prop:=(1≤n.sig∧n.sig≤1048576)∧(1≤n.flo∧n.flo≤16384)∧1≤n.gate∧n.gate≤16
instance (n:Noi):Decidable (NoiOk n):=by unfold NoiOk;infer_instance
def powN(n:Noi)(d:Int):Int:=if d < -32*n.sig∨32*n.sig<d then 2621440 else min (divV (d*d*47274) (n.sig*n.sig) 2) 2621440
def wgtN(n:Noi)(d:Int):Int:=divV (expN (powN n d)*(65536-n.flo)) 4294967296 2+n.flo
theorem wgtN_in{n:Noi}(h:NoiOk n)(d:Int):n.flo≤wgtN n d∧wgtN n d≤65536:=by
 obtain⟨-,h2,-⟩:=h
 unfold wgtN
 have h3:=expN_in (powN n d)
 generalize expN (powN n d)=e at *
 have h4:=mul_in h3 (show 0≤65536-n.flo∧65536-n.flo≤65536-n.flo by omega)
 rw[divV_near (by decide)]
 generalize e*(65536-n.flo)=m at *
 omega
def widN(n:Noi)(r:Int):Noi:={ n with sig:=min (n.sig+min (max r 0) 1048576) 1048576 }
def sumG(p:List Int)(f:Nat→Int):Nat→Int
 | 0=>0
 | i+1=>sumG p f i+p.getD i 0*f i
def colI(W:Int)(i:Nat):Int:=(i:Int)%W
def rowI(W:Int)(i:Nat):Int:=(i:Int)/W
def meanN(g:Grd):Int×Int:=(g.x+divV (sumG g.p (colI g.w) g.p.length*g.st) (sumL g.p g.p.length) 2,g.y+divV (sumG g.p (rowI g.w) g.p.length*g.st) (sumL g.p g.p.length) 2)
def crossN(n pr a b:Int):Int:=(n*pr-a*b)*65536/n/n
def varX(g:Grd):Int:=crossN (sumL g.p g.p.length) (sumG g.p (fun i=>colI g.w i*colI g.w i) g.p.length) (sumG g.p (colI g.w) g.p.length) (sumG g.p (colI g.w) g.p.length)
def varY(g:Grd):Int:=crossN (sumL g.p g.p.length) (sumG g.p (fun i=>rowI g.w i*rowI g.w i) g.p.length) (sumG g.p (rowI g.w) g.p.length) (sumG g.p (rowI g.w) g.p.length)
def apartN(W:Int)(far:Int)(a b:Nat):Bool:=decide (far<max (max (max (colI W a-colI W b) (-(colI W a-colI W b))) (rowI W a-rowI W b)) (-(rowI W a-rowI W b)))
def secTo14(g:Grd)(far:Int)(top:Nat):Nat→Int×Int
 | 0=>(-1,0)
 | i+1=>if (secTo14 g far top i).2<g.p.getD i 0∧apartN g.w far i top then ((i:Int),g.p.getD i 0)else secTo14 g far top i
def edgeN(g:Grd):Int:=sumG g.p (fun i=>if colI g.w i=0∨rowI g.w i=0∨colI g.w i=g.w-1∨rowI g.w i=g.h-1 then 1 else 0) g.p.length
def halve(f:Int→Bool):Nat→Int→Int→Int→Int
 | 0,n,_,_=>n
 | k+1,n,lo,hi=>if lo≤hi then (if f ((lo+hi)/2)then halve f k ((lo+hi)/2) ((lo+hi)/2+1) hi else halve f k n lo ((lo+hi)/2-1))else n
def evenN(g:Grd):Int:=if sumL g.p g.p.length=0 then 0 else halve (fun n=>decide (sumG g.p (fun i=>g.p.getD i 0) g.p.length*n≤sumL g.p g.p.length*sumL g.p g.p.length)) (g.p.length+1) 0 1 g.p.length
def normL(p:List Int):List Int:=if sumL p p.length≤0 then p else tab (fun i=>p.getD i 0*1073741824/sumL p p.length) p.length
def clampN(i n:Int):Int:=min (max i 0) (n-1)
def passX(q W:Int)(p:List Int):List Int:=tab (fun k=>(q*p.getD (rowI W k*W+clampN (colI W k-1) W).toNat 0+(256-2*q)*p.getD k 0+q*p.getD (rowI W k*W+clampN (colI W k+1) W).toNat 0)/256) p.length
def passY(q W H:Int)(p:List Int):List Int:=tab (fun k=>(q*p.getD (clampN (rowI W k-1) H*W+colI W k).toNat 0+(256-2*q)*p.getD k 0+q*p.getD (clampN (rowI W k+1) H*W+colI W k).toNat 0)/256) p.length
def spreadG(g:Grd)(q:Int):Grd:={ g with p:=passY q g.w g.h (passX q g.w g.p) }
def normG(g:Grd):Grd:={ g with p:=normL g.p }
def moveG(g:Grd)(dx dy:Int):Grd:={ g with x:=IntKind.i64.wrap (g.x+dx),y:=IntKind.i64.wrap (g.y+dy) }
def cutG(g:Grd)(x y w h:Int):Grd:=⟨w,h,g.x+x*g.st,g.y+y*g.st,g.st,tab (fun k=>if 0≤x+colI w k∧0≤y+rowI w k∧x+colI w k<g.w∧y+rowI w k<g.h then g.p.getD ((y+rowI w k)*g.w+(x+colI w k)).toNat 0 else 0) (w*h).toNat⟩
def splitOk(g:Grd):Prop:=2*g.w≤64∧2*g.h≤64∧32≤g.st∧g.st%4=0
instance (g:Grd):Decidable (splitOk g):=by unfold splitOk;infer_instance
def splitG(g:Grd):Grd:=⟨2*g.w,2*g.h,g.x-g.st/4,g.y-g.st/4,g.st/2,tab (fun k=>g.p.getD (rowI (2*g.w) k/2*g.w+colI (2*g.w) k/2).toNat 0/4) (4*g.p.length)⟩
def joinOk(g:Grd):Prop:=g.w%2=0∧g.h%2=0∧2*g.st≤4096
instance (g:Grd):Decidable (joinOk g):=by unfold joinOk;infer_instance
def joinTo(g:Grd):Nat→List Int
 | 0=>List.replicate (g.p.length/4) 0
 | i+1=>(joinTo g i).set (rowI g.w i/2*(g.w/2)+colI g.w i/2).toNat ((joinTo g i).getD (rowI g.w i/2*(g.w/2)+colI g.w i/2).toNat 0+g.p.getD i 0)
def joinG(g:Grd):Grd:=⟨g.w/2,g.h/2,g.x+g.st/2,g.y+g.st/2,2*g.st,joinTo g g.p.length⟩
structure Rst where
 kind:Int
 x:Int
 y:Int
 w:Int
 h:Int
@[reducible] def rstE(s:Rst):List Value:=[.int .i64 s.kind,.int .i64 s.x,.int .i64 s.y,.int .i64 s.w,.int .i64 s.h]
def centN(g:Grd):Rst :=
 let top:=(max (pkTo g.p g.p.length).1 0).toNat
 ⟨3,colI g.w top-min g.w 16/2,rowI g.w top-min g.h 16/2,min g.w 16,min g.h 16⟩
def chooseN(g:Grd):Rst :=
 if 134217728<edgeN g∧8≤g.w∧8≤g.h∧joinOk g then ⟨2,0,0,0,0⟩
 else if evenN g<8∧g.w≤16∧g.h≤16∧splitOk g then ⟨1,0,0,0,0⟩
 else if 16<g.w∨16<g.h∨g.w/4<max (centN g).x (-(centN g).x)∨g.h/4<max (centN g).y (-(centN g).y)then centN g
 else ⟨0,0,0,0,0⟩
def rawN(g:Grd)(s:Rst):Grd:=if s.kind=1 then splitG g else if s.kind=2 then joinG g else cutG g s.x s.y s.w s.h
structure Bk where
 b:Int
 n:Int
@[reducible] def bkE(k:Bk):List Value:=[.int .i64 k.b,.int .i64 k.n]
def costL(n:Int):Int:=divV (n*1099511627776) (1073741824-4*n) 1
theorem costL_in{n:Int}(h:0≤n∧n≤4096):0≤costL n∧costL n≤4194400:=by
 unfold costL
 rw[divV_up (by omega) (by omega)]
 refine⟨Int.ediv_nonneg (by omega) (by omega),Int.le_of_lt_add_one (Int.ediv_lt_of_lt_mul (by omega) ?_)⟩
 omega
def plusL(k:Bk)(b more:Int):Bk:=⟨min b (1099511627776-min more 1099511627776)+min more 1099511627776,k.n+1⟩
def scaledL(b most s z:Int):Int:=if z≤0∨9223372036854775808≤z then 1099511627776 else if divOk (most*s) 1 1=false then 1099511627776 else if divOk (b*divV (most*s) 1 1) z 1=false then 1099511627776 else min (divV (b*divV (most*s) 1 1) z 1) 1099511627776
theorem plusL_in{k:Bk}{b more:Int}(h:(0≤b∧b≤1099511627776)∧(0≤more∧more≤1099511627776)):0≤(plusL k b more).b∧(plusL k b more).b≤1099511627776:=by
 unfold plusL
 dsimp only
 omega
theorem scaledL_in{b most s z:Int}(hb:0≤b∧b≤1099511627776)(hm:0≤most)(hs:0≤s):0≤scaledL b most s z∧scaledL b most s z≤1099511627776:=by
 unfold scaledL
 split
 ·decide
 split
 ·decide
 split
 ·decide
 rename_i h1 h2 h3
 have h4:0≤divV (most*s) 1 1:=by
  rw[divV_up (Int.mul_nonneg hm hs) (by decide)]
  have:=Int.mul_nonneg hm hs
  omega
 have h5:=Int.mul_nonneg hb.1 h4
 have h6:0≤divV (b*divV (most*s) 1 1) z 1:=by
  rw[divV_up h5 (by omega)]
  exact Int.ediv_nonneg (by omega) (by omega)
 omega
def mostN(z s p:Int):Bool:=decide (z*2^(p/16).toNat≤s*65536)&&decide (z*2^(p/16).toNat*([65536,68438,71468,74632,77936,81387,84990,88753,92682,96786,101071,105546,110218,115098,120194,125515]:List Int).getD (p%16).toNat 0≤s*4294967296)
def surTo(z s:Int):Nat→Int→Int→Int
 | 0,lo,_=>lo
 | k+1,lo,hi=>if lo<hi then (if mostN z s ((lo+hi+1)/2)then surTo z s k ((lo+hi+1)/2) hi else surTo z s k lo ((lo+hi+1)/2-1))else lo
def surN(z s:Int):Int:=if z≤0∨s≤0 then 640 else surTo z s 641 0 640
def sqB(x:Nat):Nat→Nat
 | 0=>0
 | k+1=>if (sqB x k+2^(31-k))*(sqB x k+2^(31-k))≤x then sqB x k+2^(31-k)else sqB x k
theorem sqB_spec{x:Nat}(hx:x<18446744073709551616):∀k,k≤32→sqB x k*sqB x k≤x∧x<(sqB x k+2^(32-k))*(sqB x k+2^(32-k))
 | 0,_=>⟨by simp[sqB],by simpa [sqB] using hx⟩
 | k+1,h=>by
  obtain⟨h1,h2⟩:=sqB_spec hx k (by omega)
  have e:2^(32-k)=2^(31-k)+2^(31-k):=by rw[show 32-k=(31-k)+1 by omega,Nat.pow_succ];omega
  rw[e]at h2
  rw[sqB,show 32-(k+1)=31-k by omega]
  generalize sqB x k=r at *
  generalize 2^(31-k)=p at *
  split
  ·exact⟨by assumption,by rw[Nat.add_assoc];exact h2⟩
  ·exact⟨h1,by omega⟩
theorem sqB_isq{x:Nat}(hx:x<18446744073709551616):sqB x 32=isq x:=by
 obtain⟨h1,h2⟩:=sqB_spec hx 32 (Nat.le_refl _)
 exact(isq_of h1 h2).symm
structure Cnf where
 age:Int
 jump:Int
 throw:Int
 rmost:Int
 second:Int
 trust:Int
 over:Int
 miss:Int
 power:Int
 tries:Int
 noi:Noi
 far:Int
 step:Int
 gap:Int
 need:Int
 meas:Int
 away:Int
 num:Int
 den:Int
 times:Int
 spread:Int
def RulesOk(c:Cnf):Prop:=c.age≤60000∧(1≤c.jump∧c.jump≤1048576)∧(0≤c.throw∧c.throw≤100)∧1≤c.rmost∧c.rmost≤1048576
instance (c:Cnf):Decidable (RulesOk c):=by unfold RulesOk;infer_instance
def MarksOk(c:Cnf):Prop:=(0≤c.second∧c.second≤256)∧(1≤c.trust∧c.trust≤640)∧(1≤c.over∧c.over≤32)∧(0≤c.miss∧c.miss≤100)∧(1≤c.power∧c.power≤30)∧1≤c.tries∧c.tries≤100
instance (c:Cnf):Decidable (MarksOk c):=by unfold MarksOk;infer_instance
def cnfC(c:Cnf):Int :=
 if ¬RulesOk c then 2 else if ¬MarksOk c then 2 else if ¬NoiOk c.noi then 2
 else if c.far<1∨15<c.far∨c.step<64∨2048<c.step∨c.gap<0∨65536<c.gap∨c.need<2∨64<c.need then 2
 else if c.meas<0∨3<c.meas∨c.away<0∨30<c.away∨c.num<1∨1048576<c.num∨c.den<1∨1048576<c.den then 1
 else if c.times<1∨65536<c.times∨c.spread<0∨85<c.spread then 1 else 0
structure Prf where
 l:List Smp
 first:Nat
 n:Nat
 x:Int
 y:Int
 gap:Int
def pNew(gap:Int):Prf:=⟨List.replicate 64 ⟨0,0,0⟩,0,0,0,0,min (max gap 0) 1048576⟩
def out24(x:Int):Prop:=x < -16777216∨16777216<x
instance (x:Int):Decidable (out24 x):=by unfold out24;infer_instance
def pMove(p:Prf)(dx dy:Int):Prf×Bool :=
 if out24 dx∨out24 dy then (p,false)else if out24 (p.x+dx)∨out24 (p.y+dy)then (p,false)else ({ p with x:=p.x+dx,y:=p.y+dy },true)
def pNear(p:Prf):Prop:=0<p.n∧max (max (max (p.x-(p.l.getD ((p.first+p.n+63)%64) default).dx) (-(p.x-(p.l.getD ((p.first+p.n+63)%64) default).dx))) (p.y-(p.l.getD ((p.first+p.n+63)%64) default).dy)) (-(p.y-(p.l.getD ((p.first+p.n+63)%64) default).dy))<p.gap
instance (p:Prf):Decidable (pNear p):=by unfold pNear;infer_instance
def pAdd(p:Prf)(z:Int):Prf :=
 if pNear p then p
 else if p.n=64 then { p with l:=p.l.set (((p.first+1)%64+63)%64) ⟨p.x,p.y,z⟩,first:=(p.first+1)%64 }
 else { p with l:=p.l.set ((p.first+p.n)%64) ⟨p.x,p.y,z⟩,n:=p.n+1 }
def pAll(p:Prf):Nat→List Smp
 | 0=>[]
 | i+1=>pAll p i++[p.l.getD ((p.first+i)%64) default]
def pBack(p:Prf):List Smp:=(pAll p p.n).map fun s=>⟨s.dx-p.x,s.dy-p.y,s.z⟩
structure Wat where
 l:List Int
 n:Int
 miss:Int
def wNew:Wat:=⟨List.replicate 32 0,0,0⟩
def wFound(c:Cnf)(w:Wat)(z s:Int):Wat:=⟨w.l.set (w.n%c.over).toNat (surN z s),w.n+1,0⟩
def wMean(c:Cnf)(w:Wat):Int:=if min w.n c.over=0 then 0 else sumL w.l (min w.n c.over).toNat/min w.n c.over
def wLost(c:Cnf)(w:Wat):Bool:=decide (c.miss<w.miss∨c.over≤w.n∧c.trust<wMean c w)
def tornN(c:Cnf)(g:Grd):Bool :=
 let a:=(pkTo g.p g.p.length).1
 let b:=(secTo14 g 3 a.toNat g.p.length).1
 decide (0≤a∧0≤b∧g.p.getD a.toNat 0*c.second<g.p.getD b.toNat 0*256)
structure Inp where
 start:Bool
 stop:Bool
 broken:Bool
 clear:Bool
 tried:Bool
 found:Bool
 missed:Bool
 lost:Bool
 over:Bool
deriving Inhabited
@[reducible] def inpE(i:Inp):List Value:=[.bool i.start,.bool i.stop,.bool i.broken,.bool i.clear,.bool i.tried,.bool i.found,.bool i.missed,.bool i.lost,.bool i.over]
def inp0:Inp:=⟨false,false,false,false,false,false,false,false,false⟩
def followN(m:Int)(i:Inp):Int×Int:=if i.over=true∨i.lost=true then (1,1)else if i.found=true then (2,0)else if i.missed=true then (3,0)else (m,0)
def nextN(m:Int)(i:Inp):Int×Int :=
 if m<0∨4<m∨i.broken=true∨m=4 then (4,0)
 else if i.stop=true then (0,3)
 else if m=0 then (if i.start=true then (1,1)else (0,0))
 else if m=1 then (if i.clear=true then (2,2)else if i.tried=true then (0,3)else (1,0))
 else followN m i
def holdsN(m:Int):Bool:=decide (m=2∨m=3)
structure Ded where
 kind:Int
 g:Grd
 dx:Int
 dy:Int
 q:Int
 l:List Int
 st:Rst
def grd0:Grd:=⟨0,0,0,0,0,[]⟩
structure NavS where
 cf:Cnf
 ln:Ln
 p:Prf
 w:Wat
 sat:Bool
 sums:Int
 x:Int
 y:Int
 mode:Int
 g:Grd
 next:Grd
 bk:Bk
 tries:Int
 void:Bool
 fail:Bool
 seq:Int
 time:Int
 deeds:List Ded
 ins:List Inp
 modes:List Int
def within36(x y:Int):Bool:=decide ((-68719476736≤x∧x≤68719476736)∧(-68719476736≤y∧y≤68719476736))
def overN(s:NavS):Bool:=holdsN s.mode&&decide (1099511627776/2^s.cf.power.toNat<s.bk.b)
def flagsN(s:NavS):Int :=
 (if holdsN s.mode&&tornN s.cf s.g then 1 else 0)+(if holdsN s.mode&&wLost s.cf s.w then 2 else 0)+(if overN s then 4 else 0)+(if holdsN s.mode&&s.void then 8 else 0)+if s.fail then 16 else 0
def sureB(g:Grd):Int:=let s:=(divV ((varX g+varY g)*(g.st*g.st)) 65536 1).toNat;if sqB s 32*sqB s 32<s then (sqB s 32:Int)+1 else sqB s 32
def near50(x:Int):Prop:=-1125899906842624≤x∧x≤1125899906842624
instance (x:Int):Decidable (near50 x):=by unfold near50;infer_instance
def fits30(x:Int):Prop:=-1073741824≤x∧x≤1073741824
instance (x:Int):Decidable (fits30 x):=by unfold fits30;infer_instance
def correctN(s:NavS):Option Frm :=
 let m:=meanN s.g
 let r:=sureB s.g
 if near50 m.1∧near50 m.2∧near50 s.x∧near50 s.y∧fits30 (m.1-s.x)∧fits30 (m.2-s.y)∧fits30 r then some ⟨6,s.seq,s.time,m.1-s.x,m.2-s.y,r⟩else none
def tellN(s0:NavS):NavS×List Frm :=
 let s:={ s0 with seq:=(s0.seq+1)%65536 }
 let f:=flagsN s
 let out:List Frm:=[⟨7,s.seq,s.time,s.mode,f,0⟩]
 (s,if s.mode=2∧f=0 then (match correctN s with|some c=>out++[c]|none=>out)else out)
section
variable (W H:Nat) (f:List Int)
def roughB(L:List Int):Int:=if L.length=0 then 0 else sqB (roughX L) 32
def weightsN(g:Grd)(n:Noi)(z:Int):Option (List Int) :=
 let m:=meanN g
 if codeF W H f m.1 m.2≠0 then none
 else
  let v:=widN n (roughB (sqH W H f (m.1/256) (m.2/256) 1)/4)
  some (tab (fun i=>if codeF W H f (g.x+colI g.w i*g.st) (g.y+rowI g.w i*g.st)=0 then wgtN v (heightT W H f (g.x+colI g.w i*g.st) (g.y+rowI g.w i*g.st)-z)else v.flo) g.p.length)
def layN:Nat→NavS→NavS
 | 0,s=>s
 | k+1,s =>
  let c:=chooseN s.g
  if c.kind=0 then s
  else
   let raw:=rawN s.g c
   let g':=normG raw
   let n:Int:=g'.w*g'.h
   let b:=if c.kind=1 then plusL s.bk s.bk.b (2*costL n)else if c.kind=2 then plusL s.bk s.bk.b (costL n)else plusL s.bk (scaledL s.bk.b 1 (sumL s.g.p s.g.p.length) (sumL raw.p raw.p.length)) (costL n)
   layN k { s with g:=g',bk:=b,deeds:=s.deeds++[⟨4,grd0,0,0,0,[],c⟩] }
def weighN(s:NavS)(z:Int):NavS×Inp :=
 match weightsN W H f s.g s.cf.noi z with
 | none=>({ s with void:=true,w:={ s.w with miss:=s.w.miss+1 } },{ inp0 with missed:=true })
 | some l =>
  let sm:=sumL s.g.p s.g.p.length
  let all:=wsTo s.g.p l s.g.p.length
  let s1:={ s with void:=false,w:=wFound s.cf s.w all sm,g:={ s.g with p:=wghL s.g.p l },bk:=plusL s.bk (scaledL s.bk.b (mostTo l l.length) sm all) (costL l.length),deeds:=s.deeds++[⟨3,grd0,0,0,0,l,⟨0,0,0,0,0⟩⟩] }
  (layN 4 s1,{ inp0 with found:=true })
def lookN(s:NavS):NavS×Inp :=
 let sc:Sch:=⟨s.x,s.y,s.cf.far,s.cf.step⟩
 let l:=pBack s.p
 let L:=allL W H f sc l s.cf.meas
 let b:=cbTo L L.length
 if L.length≠0∧clrB b.cost (secTo L b s.cf.away L.length) s.cf.num s.cf.den=true∧mkC W H f sc l s.cf.meas s.cf.times=0 then ({ s with next:=mkG W H f sc l s.cf.meas s.cf.times },{ inp0 with clear:=true })
 else ({ s with tries:=s.tries+1,p:=pNew s.p.gap },{ inp0 with tried:=decide (s.cf.tries≤s.tries+1) })
def groundN(s:NavS)(z:Int):NavS×Inp :=
 if s.mode=1 then
  let s1:={ s with p:=pAdd s.p z }
  if s.cf.need≤s1.p.n then lookN W H f s1 else (s1,inp0)
 else if holdsN s.mode then
  let r:=weighN W H f s z
  (r.1,{ r.2 with lost:=r.2.lost||wLost r.1.cf r.1.w,over:=overN r.1 })
 else (s,inp0)
def endN(a b:Int):Bool:=(decide (a<0)==decide (b<0))&&(decide (IntKind.i64.wrap (a+b)<0) != decide (a<0))
def addN(a b:Int):Int:=if endN a b then (if a<0 then -9223372036854775808 else 9223372036854775807)else IntKind.i64.wrap (a+b)
def spreadN(s:NavS)(dx dy:Int):NavS :=
 let g:=normG (spreadG (moveG s.g dx dy) s.cf.spread)
 { s with g:=g,bk:=plusL s.bk s.bk.b (3*costL (g.w*g.h)),deeds:=s.deeds++[⟨2,grd0,dx,dy,s.cf.spread,[],⟨0,0,0,0,0⟩⟩] }
def moveN(s:NavS)(dx dy:Int):NavS×Inp :=
 let s1:={ s with x:=addN s.x dx,y:=addN s.y dy,sat:=s.sat||endN s.x dx||endN s.y dy,sums:=IntKind.i64.wrap (IntKind.i64.wrap (s.sums+1)+1) }
 if s1.sat||!within36 s1.x s1.y then (s1,{ inp0 with broken:=true })
 else
  let s2:=if s1.mode=1 then { s1 with p:=if (pMove s1.p dx dy).2 then (pMove s1.p dx dy).1 else pNew s1.p.gap }else if holdsN s1.mode then spreadN s1 dx dy else s1
  (s2,{ inp0 with over:=overN s2 })
def settleN(s:NavS)(i:Inp)(say:Bool):NavS×List Frm :=
 let nx:=nextN s.mode i
 let s1:={ s with mode:=nx.1,ins:=s.ins++[i],modes:=s.modes++[nx.1] }
 let s2:=if nx.2=1 then { s1 with p:=pNew s1.p.gap,tries:=0,fail:=false,void:=false,g:=grd0,deeds:=[] }
  else if nx.2=2 then { s1 with g:=s1.next,bk:=⟨0,0⟩,w:=wNew,deeds:=[⟨1,s1.next,0,0,0,[],⟨0,0,0,0,0⟩⟩],void:=false }
  else if nx.2=3 then { s1 with fail:=i.tried&&!i.stop,void:=false,g:=grd0,deeds:=[] }
  else s1
 if say∨nx.1≠s.mode then tellN s2 else (s2,[])
def takeN(s:NavS)(x:Frm):NavS×List Frm :=
 if s.mode=4 then tellN s
 else
  let t:=s.ln.take x.kind x.seq x.time x.a
  let s1:={ s with ln:=t.1 }
  let ok:=t.2.2.2
  if ok then settleN { (groundN W H f s1 t.2.2.1).1 with time:=x.time } (groundN W H f s1 t.2.2.1).2 true
  else if t.2.1≠6 then (s1,[])
  else
   let r:=if x.kind=1 then moveN s1 x.a x.b else if x.kind=5 then (s1,{ inp0 with start:=decide (x.a=1),stop:=decide (x.a=0) })else (s1,inp0)
   settleN { r.1 with time:=x.time } r.2 (decide (x.kind=5∨x.kind=4))
end
def newN(c:Cnf)(x y:Int):NavS:=⟨c,Ln.new c.age c.jump c.throw c.rmost,pNew c.gap,wNew,false,0,x,y,0,grd0,grd0,⟨0,0⟩,0,false,false,0,0,[],[],[]⟩
theorem tab_congr{g h:Nat→Int}: ∀{n:Nat},(∀i,i<n→g i=h i)→tab g n=tab h n
 | 0,_=>rfl
 | n+1,e=>by rw[tab,tab,tab_congr (n:=n) (fun i hi=>e i (by omega)),e n (by omega)]
theorem ones_get{n i:Nat}(h:i<n):(List.replicate n (1:Int)).getD i 0=1:=by
 rw[List.getD_eq_getElem?_getD,List.getElem?_replicate,if_pos h]
 rfl
theorem ones_ws(p:List Int):∀m,m≤p.length→wsTo p (List.replicate p.length 1) m=sumL p m
 | 0,_=>rfl
 | m+1,h=>by rw[wsTo,sumL,ones_ws p m (by omega),ones_get (by omega),Int.mul_one]
theorem normL_eq{p:List Int}(hz:0<sumL p p.length):normL p=wghL p (List.replicate p.length 1):=by
 unfold normL wghL
 rw[if_neg (by omega),ones_ws p _ (Nat.le_refl _)]
 refine tab_congr fun i hi=>?_
 unfold wgh
 rw[ones_get hi,Int.mul_one]
theorem normL_len(p:List Int):(normL p).length=p.length:=by
 unfold normL
 split
 ·rfl
 ·exact tab_len _ _
def WholeP(p:List Int):Prop:=Pos30 p∧1073741824-(p.length:Int)≤sumL p p.length∧sumL p p.length≤1073741824
theorem wghL_len(p l:List Int):(wghL p l).length=p.length:=tab_len _ _
theorem wghL_whole{p l:List Int}(hp:Pos30 p)(hw:Wt l)(he:l.length=p.length)(hz:0<wsTo p l p.length):WholeP (wghL p l):=by
 obtain⟨h1,h2,h3⟩:=wgh_ok hp hw he hz
 have hl:=wghL_len p l
 exact⟨fun i hi=>h1 i (by omega),by rw[hl];exact h2,by rw[hl];exact h3⟩
theorem normL_whole{p:List Int}(hp:Pos30 p)(hz:0<sumL p p.length):WholeP (normL p):=by
 rw[normL_eq hz]
 refine wghL_whole hp (fun i hi=>?_) (List.length_replicate ..) (by rw[ones_ws p _ (Nat.le_refl _)];exact hz)
 rw[List.length_replicate]at hi
 rw[ones_get hi]
 decide
theorem sumL_some{p:List Int}{B:Int}: ∀n:Nat,B*(n:Int)<sumL p n→∃i,i<n∧B<p.getD i 0
 | 0,h=>by simp[sumL]at h
 | n+1,h=>by
  rw[sumL]at h
  have e:B*((n+1:Nat):Int)=B*(n:Int)+B:=by push_cast;rw[Int.mul_add,Int.mul_one]
  rw[e]at h
  rcases Int.lt_or_le B (p.getD n 0) with h1|h1
  ·exact⟨n,by omega,h1⟩
  ·obtain⟨i,hi,h2⟩:=sumL_some (p:=p) (B:=B) n (by omega)
   exact⟨i,by omega,h2⟩
theorem whole_some{p:List Int}(h:WholeP p)(hn:0<p.length)(hm:p.length≤4096):∃i,i<p.length∧262142<p.getD i 0:=by
 obtain⟨-,h2,-⟩:=h
 have hm2:(p.length:Int)≤4096:=by omega
 refine sumL_some (B:=262142) p.length ?_
 generalize sumL p p.length=S at *
 generalize (p.length:Int)=n at *
 omega
theorem sumL_pos{p:List Int}(hp:Pos30 p){i:Nat}(hi:i<p.length)(h:0<p.getD i 0):0<sumL p p.length:=by
 have:=sumL_ge hp p.length (Nat.le_refl _) hi
 omega
theorem get_in{p:List Int}(hp:Pos30 p)(i:Nat):0≤p.getD i 0∧p.getD i 0≤1073741824:=by
 rcases Nat.lt_or_ge i p.length with h|h
 ·exact hp i h
 ·rw[List.getD_eq_getElem?_getD,List.getElem?_eq_none h]
  decide
theorem avg_in{q a b c:Int}(hq:0≤q∧q≤85)(ha:0≤a∧a≤1073741824)(hb:0≤b∧b≤1073741824)(hc:0≤c∧c≤1073741824):0≤(q*a+(256-2*q)*b+q*c)/256∧(q*a+(256-2*q)*b+q*c)/256≤1073741824∧86*b/256≤(q*a+(256-2*q)*b+q*c)/256:=by
 have h1:=mul_in hq ha
 have h2:=mul_in (show 0≤256-2*q∧256-2*q≤256-2*q by omega) hb
 have h3:=mul_in hq hc
 have h4:q*a≤q*1073741824:=Int.mul_le_mul_of_nonneg_left ha.2 hq.1
 have h5:q*c≤q*1073741824:=Int.mul_le_mul_of_nonneg_left hc.2 hq.1
 have h6:86*b≤(256-2*q)*b:=Int.mul_le_mul_of_nonneg_right (by omega) hb.1
 generalize q*a=x at *
 generalize q*c=y at *
 generalize (256-2*q)*b=z at *
 omega
theorem passX_len(q W:Int)(p:List Int):(passX q W p).length=p.length:=tab_len _ _
theorem passY_len(q W H:Int)(p:List Int):(passY q W H p).length=p.length:=tab_len _ _
theorem passX_pos{q W:Int}{p:List Int}(hq:0≤q∧q≤85)(hp:Pos30 p):Pos30 (passX q W p)∧∀i,i<p.length→86*p.getD i 0/256≤(passX q W p).getD i 0:=by
 refine⟨fun i hi=>?_,fun i hi=>?_⟩
 ·rw[passX_len]at hi
  unfold passX
  rw[tab_get _ hi]
  have:=avg_in hq (get_in hp (rowI W i*W+clampN (colI W i-1) W).toNat) (get_in hp i) (get_in hp (rowI W i*W+clampN (colI W i+1) W).toNat)
  exact⟨this.1,this.2.1⟩
 ·unfold passX
  rw[tab_get _ hi]
  exact(avg_in hq (get_in hp (rowI W i*W+clampN (colI W i-1) W).toNat) (get_in hp i) (get_in hp (rowI W i*W+clampN (colI W i+1) W).toNat)).2.2
theorem passY_pos{q W H:Int}{p:List Int}(hq:0≤q∧q≤85)(hp:Pos30 p):Pos30 (passY q W H p)∧∀i,i<p.length→86*p.getD i 0/256≤(passY q W H p).getD i 0:=by
 refine⟨fun i hi=>?_,fun i hi=>?_⟩
 ·rw[passY_len]at hi
  unfold passY
  rw[tab_get _ hi]
  have:=avg_in hq (get_in hp (clampN (rowI W i-1) H*W+colI W i).toNat) (get_in hp i) (get_in hp (clampN (rowI W i+1) H*W+colI W i).toNat)
  exact⟨this.1,this.2.1⟩
 ·unfold passY
  rw[tab_get _ hi]
  exact(avg_in hq (get_in hp (clampN (rowI W i-1) H*W+colI W i).toNat) (get_in hp i) (get_in hp (clampN (rowI W i+1) H*W+colI W i).toNat)).2.2
def GrdOk(g:Grd):Prop:=sidesOk g.w g.h g.st∧(g.p.length:Int)=g.w*g.h∧WholeP g.p
theorem GrdOk.len{g:Grd}(h:GrdOk g):0<g.p.length∧g.p.length≤4096:=by
 obtain⟨⟨h1,h2,-⟩,h3,-⟩:=h
 have:=mul_in (A:=64) (B:=64) (show 0≤g.w∧g.w≤64 by omega) (show 0≤g.h∧g.h≤64 by omega)
 have h4:=Int.mul_pos (show 0<g.w by omega) (show 0<g.h by omega)
 omega
theorem spread_ok{g:Grd}{q:Int}(hg:GrdOk g)(hq:0≤q∧q≤85)(dx dy:Int):Pos30 (spreadG (moveG g dx dy) q).p∧0<sumL (spreadG (moveG g dx dy) q).p (spreadG (moveG g dx dy) q).p.length∧GrdOk (normG (spreadG (moveG g dx dy) q)):=by
 obtain⟨hl0,hl1⟩:=hg.len
 obtain⟨h1,h2,h3⟩:=hg
 have ep:(spreadG (moveG g dx dy) q).p=passY q g.w g.h (passX q g.w g.p):=rfl
 obtain⟨i,hi,hb⟩:=whole_some h3 hl0 hl1
 obtain⟨p1,p2⟩:=passX_pos (W:=g.w) hq h3.1
 obtain⟨p3,p4⟩:=passY_pos (W:=g.w) (H:=g.h) hq p1
 have hlx:=passX_len q g.w g.p
 have hly:=passY_len q g.w g.h (passX q g.w g.p)
 have b1:=p2 i hi
 have b2:=p4 i (by omega)
 have hs:=sumL_pos p3 (i:=i) (by omega) (by omega)
 rw[ep]
 refine⟨p3,hs,h1,?_,normL_whole p3 hs⟩
 show ((normL (passY q g.w g.h (passX q g.w g.p))).length:Int)=g.w*g.h
 rw[normL_len,hly,hlx]
 exact h2
theorem weigh_ok{g:Grd}{l:List Int}(hg:GrdOk g)(hl:Wt l)(he:l.length=g.p.length)(h1:∀i,i<l.length→1≤l.getD i 0):0<wsTo g.p l g.p.length∧GrdOk { g with p:=wghL g.p l }:=by
 obtain⟨hl0,hl1⟩:=hg.len
 obtain⟨g1,g2,g3⟩:=hg
 obtain⟨i,hi,hb⟩:=whole_some g3 hl0 hl1
 have hz:=ws_pos g3.1 hl he hi (by omega) (by have:=h1 i (by omega);omega)
 refine⟨hz,g1,?_,wghL_whole g3.1 hl he hz⟩
 show ((wghL g.p l).length:Int)=g.w*g.h
 rw[wghL_len]
 exact g2
end Go.Proofs.YthajpemlpmlefaaGreat
