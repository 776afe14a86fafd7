import Derived.Test.YthajpemlpmlefaaGreatP34
import Derived.Test.YthajpemlpmlefaaGreatP36
set_option maxHeartbeats 512000000
set_option maxRecDepth 4000
set_option linter.unusedVariables false
set_option linter.unusedSimpArgs false
namespace Go.Proofs.YthajpemlpmlefaaGreat
open Go.RowKit
attribute [local irreducible] OJ J HdJ Code.wpIn wpListIn Oper.wpIn bodyPost CallsIn Does
instance around_cv(a n:Int):CV Tryz.prog 253 [.int .i64 a,.int .i64 n] (.int .i64 (a-n/2)) ((0≤a∧a≤100000)∧0≤n∧n≤100000):=⟨fun hc w=>by
 refine does_of Tryz.func253 rfl Tryz.ntmps253 rfl ⟨by simp,.nil⟩ (fun _=>?_)
 simp only[slots]
 refine z_tas
 refine z_ro
 exact⟨rfl,rfl⟩⟩
theorem centred_any(g:Grd)(A:Option Addr)(c:Nat)(w:World)(hr:RoA w (blocks []) A g.p.length c 1 (ints .i64 g.p))(hg:GrdOk g):
  Does Tryz.prog 235 [.agg (grE g A c).toArray] [] w (fun v S'=>v=.agg (rstE (centN g)).toArray∧S'=[]):=by
 have hm4:=hg.len
 obtain⟨W,H,hW,hH,hW1,hH1,hWH⟩:=nat_sides hg
 obtain⟨k,hk2,hk1,-,-⟩:=pk_top hg.2.2 hm4.1 hm4.2
 have hP:=fun w hw=>peak_any g A c w hw (by omega)
 have hrow:=row_lt (W:=W) (H:=H) (i:=k) (by omega)
 obtain⟨e1,e2,e3,e4⟩:=col_at (W:=W) (by omega) k
 unfold centN
 dsimp only
 rw[hk1]at hP ⊢
 rw[show (max (k:Int) 0).toNat=k by omega]
 rw[hW,hH,e1,e2]
 obtain⟨gw,gh,gx,gy,gs,p⟩:=g
 dsimp only at hr hW hH hm4 hP ⊢
 subst hW hH
 dsimp only[grE]at *
 have iX:∀w0 W H x y ts,MS Tryz.prog w0 W H (.call ⟨.builtin .max,#[x,y],ts⟩) [.int .i64 (k:Int),.int .i64 0] (.int .i64 (k:Int)) True:=fun _ _ _ _ _ _=>msM inferInstance trivial (congrArg (Value.int .i64) (by omega))
 have iR:∀w0 W' H' t u a b,LV Tryz.prog w0 W' H' (.binOp .rem t a b u) [.int .i64 (k:Int),.int .i64 (W:Int)] (.int .i64 ((k%W:Nat):Int)) True:=fun _ _ _ _ _ _ _=>lvM inferInstance (by omega) (congrArg (Value.int .i64) rfl)
 have iQ:∀w0 W' H' t u a b,LV Tryz.prog w0 W' H' (.binOp .quo t a b u) [.int .i64 (k:Int),.int .i64 (W:Int)] (.int .i64 ((k/W:Nat):Int)) True:=fun _ _ _ _ _ _ _=>lvM inferInstance (by refine⟨by omega,by omega,by omega,by omega⟩) (congrArg (Value.int .i64) rfl)
 clear hg e1 e2 e3
 generalize k%W=kc at *
 generalize k/W=kr at *
 refine does_of Tryz.func235 rfl Tryz.ntmps235 rfl ⟨by simp,.nil⟩ (fun _=>?_)
 simp only[slots]
 refine z_tas
 refine lfv rfl rfl rfl (fun w hw=>hP w ⟨hr.h.go hw (Split.nil _)⟩) ?_
 refine z_tas
 rename_i b1 b2
 refine c_dvL [.blk b1 63 [.int .i64 W,.int .i64 H,.int .i64 gx,.int .i64 gy,.int .i64 gs,.slice A p.length c]] (0::1::2::3::4::5::6::7::8::9::10::11::12::13::14::15::[]) Sub.au ?_
 intro _
 refine z_gvx
 all_goals (refine z_ro;exact⟨rfl,rfl⟩)
instance cost_cv(n:Int):CV Tryz.prog 190 [.int .i64 n] (.int .i64 (costL n)) (0≤n∧n≤4096):=⟨fun hc w=>by
 have e:min (max n 0) 4096=n:=by omega
 have hb:=costL_in hc
 have iM:=muldiv_cv (min (max n 0) 4096) 1099511627776 (1073741824-4*min (max n 0) 4096) 1
 rw[show divV (min (max n 0) 4096*1099511627776) (1073741824-4*min (max n 0) 4096) 1=costL n by rw[e];rfl]at iM
 generalize costL n=v at *
 refine does_of Tryz.func190 rfl Tryz.ntmps190 rfl ⟨by simp,.nil⟩ (fun n=>?_)
 simp only[slots]
 refine z_tas
 refine z_ro
 exact⟨rfl,rfl⟩⟩
instance plus_cv(k:Bk)(b more:Int):CV Tryz.prog 188 [.agg (bkE k).toArray,.int .i64 b,.int .i64 more] (.agg (bkE (plusL k b more)).toArray) ((0≤b∧b≤1099511627776)∧(0≤more∧more≤1099511627776)∧0≤k.n∧k.n≤1099511627776):=⟨fun hc w=>by
 refine does_of Tryz.func188 rfl Tryz.ntmps188 rfl ⟨by simp,.nil⟩ (fun n=>?_)
 simp only[slots]
 unfold plusL
 refine z_tas
 refine z_ro
 exact⟨rfl,rfl⟩⟩
theorem scaled_any(b most s z:Int)(w:World)(hb:0≤b∧b≤1099511627776)(hm:0≤most∧most≤65536)(hs:0≤s∧s≤1099511627776)(hz : -4611686018427387904≤z∧z≤85070591730234615865843651857942052864):
  Does Tryz.prog 189 [.int .i64 b,.int .i64 most,.int .i64 s,.agg (wideV z).toArray] [] w (fun v S'=>v=.int .i64 (scaledL b most s z)∧S'=[]):=by
 have hms:=mul_in hm hs
 have ex:divV (most*s) 1 1=most*s:=by rw[divV_up hms.1 (by decide)];omega
 have iX:=muldiv_cv most s 1 1
 rw[ex]at iX
 have eo:divOk (most*s) 1 1=true:=divOk_of (by rw[ex];omega)
 refine does_of Tryz.func189 rfl Tryz.ntmps189 rfl ⟨by simp,.nil⟩ (fun n=>?_)
 simp only[slots]
 unfold scaledL
 rw[eo,ex]
 by_cases h1:z≤0∨9223372036854775808≤z
 ·rw[if_pos h1]
  refine z_tas
  all_goals first
   | (refine z_ro;exact⟨rfl,rfl⟩)
   | (exfalso;omega)
   | skip
 ·rw[if_neg h1,if_neg (by decide)]
  have iY:CV Tryz.prog 103 [.int .i64 b,.int .i64 (most*s),.int .i64 (z%18446744073709551616),.int .i64 1] (.tuple #[.int .i64 (bif divOk (b*(most*s)) z 1 then divV (b*(most*s)) z 1 else 0),.int .i64 (bif divOk (b*(most*s)) z 1 then 0 else 10)]) True:=⟨fun _ w=>by
   rw[show z%18446744073709551616=z by omega]
   exact muldivX_any b (most*s) z 1 w (by show _∧_;omega) (by show _∧_;omega) (by omega) (by decide)⟩
  have hi:=fun h=>divOk_in (z:=b*(most*s)) (b:=z) (mode:=1) (by omega) h
  generalize divOk (b*(most*s)) z 1=ok at *
  generalize divV (b*(most*s)) z 1=V at *
  generalize most*s=ms at *
  cases ok
  ·simp only[cond_false]at iY
   refine z_tas
   all_goals first
    | (refine z_ro;exact⟨rfl,rfl⟩)
    | (exfalso;omega)
    | skip
  ·simp only[cond_true]at iY
   have hi1:=hi rfl
   refine z_tas
   all_goals first
    | (refine z_ro;exact⟨rfl,rfl⟩)
    | (exfalso;omega)
    | skip
instance bover_cv(k:Bk)(p:Int):CV Tryz.prog 42 [.agg (bkE k).toArray,.int .i64 p] (.bool (decide (1099511627776/2^p.toNat<k.b))) (1≤p∧p≤30):=⟨fun hc w=>by
 refine does_of Tryz.func42 rfl Tryz.ntmps42 rfl ⟨by simp,.nil⟩ (fun _=>?_)
 simp only[slots]
 refine z_tas
 refine c_dv (0::1::2::3::4::5::6::7::8::9::10::11::12::13::[]) ?_;intro _
 refine z_govG
 all_goals (refine z_ro;exact⟨rfl,rfl⟩)⟩
end Go.Proofs.YthajpemlpmlefaaGreat
