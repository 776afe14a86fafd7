import Derived.Test.YtbhchphfmhmabaaGreatP34
import Derived.Test.YtbhchphfmhmabaaGreatP36
set_option maxHeartbeats 512000000
set_option maxRecDepth 4000
set_option linter.unusedVariables false
set_option linter.unusedSimpArgs false
namespace Go.Proofs.YtbhchphfmhmabaaGreat
open Go.RowKit _root_.Go.Proofs.Tryz
attribute [local irreducible] OJ J bM Code.wpIn wpListIn Oper.wpIn bodyPost CallsIn aF
instance around_cv(a n:Int):CV prog 271 [.int .i64 a,.int .i64 n] (.int .i64 (a-n/2)) ((0≤a∧a≤100000)∧0≤n∧n≤100000):=⟨fun hc w=>by refine aJ func271 rfl ntmps271 rfl ⟨aE,.nil⟩ (fun _=>?_);simp only[aG];refine aB;refine bK;exact⟨rfl,rfl⟩⟩
theorem aRs(g:bE)(A:Option Addr)(c:Nat)(w:World)(hr:bP w (bB []) A g.p.length c 1 (aD .i64 g.p))(hg:cH g):
  aF prog 252 [.agg (aQ g A c).toArray] [] w (fun v S'=>v=.agg (rG (dB g)).toArray∧S'=[]):=by
 have hm4:=hg.len;obtain⟨W,H,hW,hH,hW1,hH1,hWH⟩:=oW hg;obtain⟨k,hk2,hk1,-,-⟩:=zJ hg.2.2 hm4.1 hm4.2;have hP:=fun w hw=>aGi g A c w hw oo;have hrow:=rF (W:=W) (H:=H) (i:=k) oo;obtain⟨e1,e2,e3,e4⟩:=oD (W:=W) oo k;unfold dB;dsimp only;rw[hk1]at hP ⊢;rw[show (max (k:Int) 0).toNat=k by omega];rw[hW,hH,e1,e2];obtain⟨gw,gh,gx,gy,gs,p⟩:=g;dsimp only at hr hW hH hm4 hP ⊢;subst hW hH;dsimp only[aQ]at *;have iX:∀w0 W H x y ts,MS prog w0 W H (.call ⟨.builtin .max,#[x,y],ts⟩) [.int .i64 (k:Int),.int .i64 0] (.int .i64 (k:Int)) True:=fun _ _ _ _ _ _=>cD inferInstance trivial (congrArg (Value.int .i64) oo);have iR:∀w0 W' H' t u a b,LV prog w0 W' H' (.binOp .rem t a b u) [.int .i64 (k:Int),.int .i64 (W:Int)] (.int .i64 ((k%W:Nat):Int)) True:=fun _ _ _ _ _ _ _=>gH inferInstance oo (congrArg (Value.int .i64) rfl);have iQ:∀w0 W' H' t u a b,LV prog w0 W' H' (.binOp .quo t a b u) [.int .i64 (k:Int),.int .i64 (W:Int)] (.int .i64 ((k/W:Nat):Int)) True:=fun _ _ _ _ _ _ _=>gH inferInstance (by refine⟨oo,oo,oo,oo⟩) (congrArg (Value.int .i64) rfl);clear hg e1 e2 e3;generalize k%W=kc at *;generalize k/W=kr at *;refine aJ func252 rfl ntmps252 rfl ⟨aE,.nil⟩ (fun _=>?_);simp only[aG];refine aB;refine bU rfl rfl rfl (fun w hw=>hP w ⟨hr.h.go hw (aC.nil _)⟩) ?_;refine aB;rename_i b1 b2;refine fJ [.blk b1 126 [.int .i64 W,.int .i64 H,.int .i64 gx,.int .i64 gy,.int .i64 gs,.slice A p.length c]] (0::1::2::3::4::5::6::7::8::9::10::11::12::13::14::15::[]) aA.au ?_;intro _;refine cE;all_goals (refine bK;exact⟨rfl,rfl⟩)
instance cost_cv(n:Int):CV prog 208 [.int .i64 n] (.int .i64 (cM n)) (0≤n∧n≤4096):=⟨fun hc w=>by have e:min (max n 0) 4096=n:=oo;have hb:=qR hc;have iM:=aAv (min (max n 0) 4096) 1099511627776 (1073741824-4*min (max n 0) 4096) 1;rw[show cP (min (max n 0) 4096*1099511627776) (1073741824-4*min (max n 0) 4096) 1=cM n by rw[e];rfl]at iM;generalize cM n=v at *;refine aJ func208 rfl ntmps208 rfl ⟨aE,.nil⟩ (fun n=>?_);simp only[aG];refine aB;refine bK;exact⟨rfl,rfl⟩⟩
instance plus_cv(k:Bk)(b more:Int):CV prog 206 [.agg (mC k).toArray,.int .i64 b,.int .i64 more] (.agg (mC (dC k b more)).toArray) ((0≤b∧b≤1099511627776)∧(0≤more∧more≤1099511627776)∧0≤k.n∧k.n≤1099511627776):=⟨fun hc w=>by refine aJ func206 rfl ntmps206 rfl ⟨aE,.nil⟩ (fun n=>?_);simp only[aG];unfold dC;refine aB;refine bK;exact⟨rfl,rfl⟩⟩
theorem aNb(b most s z:Int)(w:World)(hb:0≤b∧b≤1099511627776)(hm:0≤most∧most≤65536)(hs:0≤s∧s≤1099511627776)(hz : -4611686018427387904≤z∧z≤85070591730234615865843651857942052864):
  aF prog 207 [.int .i64 b,.int .i64 most,.int .i64 s,.agg (cA z).toArray] [] w (fun v S'=>v=.int .i64 (gL b most s z)∧S'=[]):=by
 have kM:=cT hm hs;have ex:cP (most*s) 1 1=most*s:=by rw[aAj kM.1 od];omega
 have iX:=aAv most s 1 1;rw[ex]at iX;have eo:kW (most*s) 1 1=true:=aEz (by rw[ex];omega);refine aJ func207 rfl ntmps207 rfl ⟨aE,.nil⟩ (fun n=>?_);simp only[aG];unfold gL;rw[eo,ex];by_cases h1:z≤0∨9223372036854775808≤z
 ·rw[if_pos h1];refine aB;all_goals first
   | (refine bK;exact⟨rfl,rfl⟩)
   | (exfalso;omega)
   | skip
 ·rw[if_neg h1,if_neg od];have iY:CV prog 185 [.int .i64 b,.int .i64 (most*s),.int .i64 (z%18446744073709551616),.int .i64 1] (.tuple #[.int .i64 (bif kW (b*(most*s)) z 1 then cP (b*(most*s)) z 1 else 0),.int .i64 (bif kW (b*(most*s)) z 1 then 0 else 10)]) True:=⟨fun _ w=>by rw[show z%18446744073709551616=z by omega];exact aLp b (most*s) z 1 w (by show _∧_;omega) (by show _∧_;omega) oo od⟩;have hi:=fun h=>aSv (z:=b*(most*s)) (b:=z) (mode:=1) oo h;generalize kW (b*(most*s)) z 1=ok at *;generalize cP (b*(most*s)) z 1=V at *;generalize most*s=ms at *;cases ok
  ·simp only[cond_false]at iY;refine aB;all_goals first
    | (refine bK;exact⟨rfl,rfl⟩)
    | (exfalso;omega)
    | skip
  ·simp only[cond_true]at iY;have hi1:=hi rfl;refine aB;all_goals first
    | (refine bK;exact⟨rfl,rfl⟩)
    | (exfalso;omega)
    | skip
instance bover_cv(k:Bk)(p:Int):CV prog 124 [.agg (mC k).toArray,.int .i64 p] (.bool (decide (1099511627776/2^p.toNat<k.b))) (1≤p∧p≤30):=⟨fun hc w=>by refine aJ func124 rfl ntmps124 rfl ⟨aE,.nil⟩ (fun _=>?_);simp only[aG];refine aB;refine kG (0::1::2::3::4::5::6::7::8::9::10::11::12::13::[]) ?_;intro _;refine gO;all_goals (refine bK;exact⟨rfl,rfl⟩)⟩
