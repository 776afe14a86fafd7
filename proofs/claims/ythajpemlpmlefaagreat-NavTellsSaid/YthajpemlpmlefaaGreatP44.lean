import Derived.Test.YthajpemlpmlefaaGreatP42
set_option maxHeartbeats 512000000
set_option maxRecDepth 4000
set_option linter.unusedVariables false
set_option linter.unusedSimpArgs false
namespace Go.Proofs.YthajpemlpmlefaaGreat
open Go.RowKit
theorem wrap_addu(a b:Int):IntKind.i64.wrap (IntKind.u64.wrap (IntKind.u64.wrap a+IntKind.u64.wrap b))=IntKind.i64.wrap (a+b):=by
 simp only[IntKind.wrap_u64,IntKind.wrap_i64]
 omega
attribute [local irreducible] OJ J HdJ Code.wpIn wpListIn Oper.wpIn bodyPost CallsIn Does
instance bspread_cv(k:Bk)(n:Int):CV Tryz.prog 146 [.agg (bkE k).toArray,.int .i64 n] (.agg (bkE (plusL k k.b (3*costL n))).toArray) ((0≤k.b∧k.b≤1099511627776)∧(0≤k.n∧k.n≤1099511627776)∧0≤n∧n≤4096):=⟨fun ⟨h1,h2,h3⟩ w=>by
 have hc:=costL_in h3
 have i1:=cost_cv n
 generalize costL n=c at *
 have i2:=plus_cv k k.b (3*c)
 generalize plusL k k.b (3*c)=r at *
 obtain⟨kb,kn⟩:=k
 dsimp only at h1 h2 i2 ⊢
 dsimp only[bkE]at *
 refine does_of Tryz.func146 rfl Tryz.ntmps146 rfl ⟨by simp,.nil⟩ (fun _=>?_)
 simp only[slots]
 refine z_tas
 rename_i b2 b4
 refine c_dvL [.blk b2 93 [.int .i64 kb,.int .i64 kn]] (0::1::2::3::4::5::6::7::[]) Sub.au ?_
 intro _
 refine z_gvx
 all_goals (refine z_ro;exact⟨rfl,rfl⟩)⟩
instance bsplit_cv(k:Bk)(n:Int):CV Tryz.prog 139 [.agg (bkE k).toArray,.int .i64 n] (.agg (bkE (plusL k k.b (2*costL n))).toArray) ((0≤k.b∧k.b≤1099511627776)∧(0≤k.n∧k.n≤1099511627776)∧0≤n∧n≤4096):=⟨fun ⟨h1,h2,h3⟩ w=>by
 have hc:=costL_in h3
 have i1:=cost_cv n
 generalize costL n=c at *
 have i2:=plus_cv k k.b (2*c)
 generalize plusL k k.b (2*c)=r at *
 obtain⟨kb,kn⟩:=k
 dsimp only at h1 h2 i2 ⊢
 dsimp only[bkE]at *
 refine does_of Tryz.func139 rfl Tryz.ntmps139 rfl ⟨by simp,.nil⟩ (fun _=>?_)
 simp only[slots]
 refine z_tas
 rename_i b2 b4
 refine c_dvL [.blk b2 93 [.int .i64 kb,.int .i64 kn]] (0::1::2::3::4::5::6::7::[]) Sub.au ?_
 intro _
 refine z_gvx
 all_goals (refine z_ro;exact⟨rfl,rfl⟩)⟩
instance bjoin_cv(k:Bk)(n:Int):CV Tryz.prog 140 [.agg (bkE k).toArray,.int .i64 n] (.agg (bkE (plusL k k.b (costL n))).toArray) ((0≤k.b∧k.b≤1099511627776)∧(0≤k.n∧k.n≤1099511627776)∧0≤n∧n≤4096):=⟨fun ⟨h1,h2,h3⟩ w=>by
 have hc:=costL_in h3
 have i1:=cost_cv n
 generalize costL n=c at *
 have i2:=plus_cv k k.b c
 generalize plusL k k.b c=r at *
 obtain⟨kb,kn⟩:=k
 dsimp only at h1 h2 i2 ⊢
 dsimp only[bkE]at *
 refine does_of Tryz.func140 rfl Tryz.ntmps140 rfl ⟨by simp,.nil⟩ (fun _=>?_)
 simp only[slots]
 refine z_tas
 rename_i b2 b4
 refine c_dvL [.blk b2 93 [.int .i64 kb,.int .i64 kn]] (0::1::2::3::4::5::6::[]) Sub.au ?_
 intro _
 refine z_gvx
 all_goals (refine z_ro;exact⟨rfl,rfl⟩)⟩
instance bweigh_cv(k:Bk)(n most s z:Int):CV Tryz.prog 136 [.agg (bkE k).toArray,.int .i64 n,.int .i64 most,.int .i64 s,.agg (wideV z).toArray] (.agg (bkE (plusL k (scaledL k.b most s z) (costL n))).toArray) ((0≤k.b∧k.b≤1099511627776)∧(0≤k.n∧k.n≤1099511627776)∧(0≤n∧n≤4096)∧(0≤most∧most≤65536)∧(0≤s∧s≤1099511627776)∧(0≤z∧z≤1152921504606846976)):=⟨fun ⟨h1,h2,h3,h4,h5,h6⟩ w=>by
 have hc:=costL_in h3
 have i1:=cost_cv n
 have hs:=scaledL_in (b:=k.b) (most:=most) (s:=s) (z:=z) h1 h4.1 h5.1
 have i3:CV Tryz.prog 189 [.int .i64 k.b,.int .i64 most,.int .i64 s,.agg (wideV z).toArray] (.int .i64 (scaledL k.b most s z)) True:=⟨fun _ w=>scaled_any k.b most s z w h1 h4 h5 (by omega)⟩
 generalize costL n=c at *
 generalize scaledL k.b most s z=sc at *
 have i2:=plus_cv k sc c
 generalize plusL k sc c=r at *
 obtain⟨kb,kn⟩:=k
 dsimp only at h1 h2 i2 i3 ⊢
 dsimp only[bkE]at *
 refine does_of Tryz.func136 rfl Tryz.ntmps136 rfl ⟨by simp,.nil⟩ (fun _=>?_)
 simp only[slots]
 refine z_tas
 rename_i b2 b9 b10
 refine c_dvL [.blk b2 93 [.int .i64 kb,.int .i64 kn],.blk b9 238 (wideV z)] (0::1::2::3::4::5::6::7::8::9::10::[]) Sub.au ?_
 intro _
 refine z_gvx
 all_goals (refine z_ro;exact⟨rfl,rfl⟩)⟩
instance bcut_cv(k:Bk)(n s kept:Int):CV Tryz.prog 141 [.agg (bkE k).toArray,.int .i64 n,.int .i64 s,.int .i64 kept] (.agg (bkE (plusL k (scaledL k.b 1 s kept) (costL n))).toArray) ((0≤k.b∧k.b≤1099511627776)∧(0≤k.n∧k.n≤1099511627776)∧(0≤n∧n≤4096)∧(0≤s∧s≤1099511627776)∧(0≤kept∧kept≤1152921504606846976)):=⟨fun ⟨h1,h2,h3,h5,h6⟩ w=>by
 have hc:=costL_in h3
 have i1:=cost_cv n
 have hs:=scaledL_in (b:=k.b) (most:=1) (s:=s) (z:=kept) h1 (by decide) h5.1
 have i3:CV Tryz.prog 189 [.int .i64 k.b,.int .i64 1,.int .i64 s,.agg (wideV kept).toArray] (.int .i64 (scaledL k.b 1 s kept)) True:=⟨fun _ w=>scaled_any k.b 1 s kept w h1 (by decide) h5 (by omega)⟩
 generalize costL n=c at *
 generalize scaledL k.b 1 s kept=sc at *
 have i2:=plus_cv k sc c
 generalize plusL k sc c=r at *
 obtain⟨kb,kn⟩:=k
 dsimp only at h1 h2 i2 i3 ⊢
 dsimp only[bkE]at *
 refine does_of Tryz.func141 rfl Tryz.ntmps141 rfl ⟨by simp,.nil⟩ (fun _=>?_)
 simp only[slots]
 refine z_tas
 rename_i b2 b4
 refine c_dvL [.blk b2 93 [.int .i64 kb,.int .i64 kn]] (0::1::2::3::4::5::6::7::8::9::10::[]) Sub.au ?_
 intro _
 refine z_gvx
 all_goals (refine z_ro;exact⟨rfl,rfl⟩)⟩
theorem uend_any(g:Nat)(T:TypeId)(p r:List Value)(sat m:Bool)(n:Int)(w:World)(hown:Own [.blk g T (p++(.bool sat::.int .i64 n::r))] w):
  Does Tryz.prog 142 [.pointer (some ⟨g,p.length,none⟩),.bool m] [.blk g T (p++(.bool sat::.int .i64 n::r))] w
   (fun v S'=>v=.int .i64 (if m then -9223372036854775808 else 9223372036854775807)∧S'=[.blk g T (p++(.bool true::.int .i64 n::r))]):=by
 refine does_of Tryz.func142 rfl Tryz.ntmps142 rfl hown (fun _=>?_)
 simp only[slots]
 cases m
 ·refine z_tas
  exact j_out1 rfl rfl Sub.au ⟨rfl,rfl⟩
 ·refine z_tas
  exact j_out1 rfl rfl Sub.au ⟨rfl,rfl⟩
theorem uadd_any(g:Nat)(T:TypeId)(p r:List Value)(sat:Bool)(n a b:Int)(w:World)(hown:Own [.blk g T (p++(.bool sat::.int .i64 n::r))] w)(ha:InR .i64 a)(hb:InR .i64 b):
  Does Tryz.prog 80 [.pointer (some ⟨g,p.length,none⟩),.int .i64 a,.int .i64 b] [.blk g T (p++(.bool sat::.int .i64 n::r))] w
   (fun v S'=>v=.int .i64 (addN a b)∧S'=[.blk g T (p++(.bool (sat||endN a b)::.int .i64 (IntKind.i64.wrap (n+1))::r))]):=by
 have iN:∀w0 W H t u x y,MS Tryz.prog w0 W H (.binOp .add t x y u) [.int .i64 n,.int .i64 1] (.int .i64 (IntKind.i64.wrap (n+1))) True:=fun _ _ _ _ _ _ _=>msW inferInstance trivial rfl
 have hw:=wrap_addu a b
 obtain⟨s,hs⟩:∃s,IntKind.i64.wrap (a+b)=s:=⟨_,rfl⟩
 unfold addN endN
 rw[hs]at hw ⊢
 have iC:∀w0 W H x,MS Tryz.prog w0 W H (.convert 196 2 x) [.int .u64 (IntKind.u64.wrap (IntKind.u64.wrap a+IntKind.u64.wrap b))] (.int .i64 s) True:=fun _ _ _ _=>msW inferInstance trivial (congrArg (Value.int .i64) hw)
 obtain⟨da,hda⟩:∃d,decide (a<0)=d:=⟨_,rfl⟩
 obtain⟨db,hdb⟩:∃d,decide (b<0)=d:=⟨_,rfl⟩
 obtain⟨dd,hdd⟩:∃d,decide (s<0)=d:=⟨_,rfl⟩
 have iA:∀w0 W H t u x y,MS Tryz.prog w0 W H (.binOp .lss t x y u) [.int .i64 a,.int .i64 0] (.bool da) True:=fun _ _ _ _ _ _ _=>msM inferInstance trivial (congrArg Value.bool hda)
 have iB:∀w0 W H t u x y,MS Tryz.prog w0 W H (.binOp .lss t x y u) [.int .i64 b,.int .i64 0] (.bool db) True:=fun _ _ _ _ _ _ _=>msM inferInstance trivial (congrArg Value.bool hdb)
 have iD:∀w0 W H t u x y,MS Tryz.prog w0 W H (.binOp .lss t x y u) [.int .i64 s,.int .i64 0] (.bool dd) True:=fun _ _ _ _ _ _ _=>msM inferInstance trivial (congrArg Value.bool hdd)
 rw[hda,hdb,hdd]
 have hif:∀x y:Int,(if a<0 then x else y)=if da=true then x else y:=fun x y=>by
  rw[← hda]
  simp only[decide_eq_true_eq]
 rw[hif]
 clear hif hda hdb hdd hw
 refine does_of Tryz.func80 rfl Tryz.ntmps80 rfl hown (fun _=>?_)
 simp only[slots]
 cases da<;>cases db<;>cases dd
 all_goals refine z_tas
 all_goals first
  | exact j_out1 (S':=[.blk g T (p++(.bool sat::.int .i64 (IntKind.i64.wrap (n+1))::r))]) rfl rfl Sub.au ⟨rfl,by cases sat<;>rfl⟩
  | (refine lf rfl rfl rfl (S := [.blk g T (p ++ (.bool sat :: .int .i64 (IntKind.i64.wrap (n + 1)) :: r))]) (fun w hw ho => uend_any g T p r sat _ (IntKind.i64.wrap (n + 1)) w ho) ?_
     rintro v S' ⟨rfl, rfl⟩
     refine z_tas
     exact j_out1 (S' := [.blk g T (p ++ (.bool true :: .int .i64 (IntKind.i64.wrap (n + 1)) :: r))]) rfl rfl Sub.au ⟨rfl, by cases sat <;> rfl⟩)
end Go.Proofs.YthajpemlpmlefaaGreat
