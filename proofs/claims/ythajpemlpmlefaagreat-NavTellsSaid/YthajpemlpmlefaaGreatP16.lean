import Derived.Laws.Bits64b
import Derived.Laws.BitsLemmas
import Derived.Laws.Externs
import Derived.Shelf.Spec.BitsCarry
import Derived.Test.YthajpemlpmlefaaGreatP15
set_option maxHeartbeats 512000000
set_option maxRecDepth 4000
set_option linter.unusedVariables false
set_option linter.unusedSimpArgs false
namespace Go.Proofs.YthajpemlpmlefaaGreat
open Go.RowKit
class XV(P:Program)(f:FuncId)(us:List Value)(v:outParam Value)(c:outParam Prop):Prop where h:c→∀w,(callFunc f us.toArray).run P w=.ok (.value v) w
section
variable {F:Fence} {n:Nat} {P:Program} {N:Nat} {ds:List Deferred} {w0:World} {W:Nat→Prop} {σ:List (Nat×Value)} {H R S:List HE} {Q:Exit→Act→World→Prop}
variable {ops:Array Oper} {rest:List Oper} {d:Nat} {ty:TypeId} {pos:String} {aft:Array Edge} {gd:Option (Nat×Bool)} {v:Value} {us:List Value} {c:Prop}
theorem lxv[Wide F]{f:FuncId}{args:Array Operand}{ts:Array TypeId}(hw:wantd ops σ ⟨some d,.call ⟨.value (.func f),args,ts⟩,ty,pos,aft,gd⟩=some true)(hv:vals σ args.toList=some us)[hx:XV P f us v c](hdN:Nat.blt d N=true)(hc:c)
  (h:J N ds w0 W ((d,v)::σ) H (wpListIn F n P ops Q rest)):J N ds w0 W σ H (wpListIn F n P ops Q (⟨some d,.call ⟨.value (.func f),args,ts⟩,ty,pos,aft,gd⟩::rest)):=by
 refine l_run hw (o_val (by simp) rfl hdN (fun a w ha _=>?_) h)
 have hargs:args.map a.eval=us.toArray:=by
  rw[← vals_map ha hv]
  apply Array.ext'
  simp
 have hf:a.eval (.func f)=.func (.func f) #[] #[]:=rfl
 have e0:(#[]++us.toArray++#[]:Array Value)=us.toArray:=by simp
 simp only[execOp,resolve,invoke,Deferred.ofValue,Sem.run_bind,Sem.run_pure,Result.andThen_ok,hf,hargs,e0,hx.h hc w]
end
instance add64_x(x y c:Int):XV Tryz.prog 231 [.int .u64 x,.int .u64 y,.int .u64 c] (.tuple #[.int .u64 ((x+y+c)%18446744073709551616),.int .u64 ((x+y+c)/18446744073709551616)]) (0≤x∧0≤y∧0≤c∧c≤1):=⟨fun hc w=>by
 have:=run_callFunc_extern (e:=add64Entry) Tryz.func231 (by kernel_rfl) (by kernel_rfl) (by kernel_rfl) (by kernel_rfl) [.int .u64 x,.int .u64 y,.int .u64 c].toArray w
 rw[this,run_add64 x y c (by omega) (by omega) (by omega) (by omega)]
 rfl⟩
theorem and_mask{a:Int}(h:0≤a∧a<18446744073709551616):bits .and .u64 a 4294967295=a%4294967296:=by
 have:=bits_mask .u64 64 (by decide) (fun n h0 h1=>by rw[IntKind.wrap_u64];omega) 32 (by decide) a h.1 (by omega)
 exact this
theorem shr32(a:Int):a/2^(OfNat.ofNat 32:Nat)=a/4294967296:=rfl
theorem mul64_key{x0 x1 y0 y1:Int}(hx0:0≤x0∧x0<4294967296)(hx1:0≤x1∧x1<4294967296)(hy0:0≤y0∧y0<4294967296)(hy1:0≤y1∧y1<4294967296):
  (0≤x0*y0∧x0*y0≤18446744065119617025)∧(0≤x1*y0∧x1*y0≤18446744065119617025)∧(0≤x0*y1∧x0*y1≤18446744065119617025)∧(0≤x1*y1∧x1*y1≤18446744065119617025) ∧
  (x1*4294967296+x0)*(y1*4294967296+y0)=x1*y1*18446744073709551616+(x1*y0+x0*y1)*4294967296+x0*y0:=by
 have key:∀a b:Int,0≤a∧a<4294967296→0≤b∧b<4294967296→0≤a*b∧a*b≤18446744065119617025:=fun a b ha hb=>by
  have h1:=Int.mul_le_mul (show a≤4294967295 by omega) (show b≤4294967295 by omega) hb.1 (by omega)
  exact⟨Int.mul_nonneg ha.1 hb.1,by omega⟩
 exact⟨key _ _ hx0 hy0,key _ _ hx1 hy0,key _ _ hx0 hy1,key _ _ hx1 hy1,by grind⟩
attribute [local irreducible] OJ J HdJ Code.wpIn wpListIn Oper.wpIn bodyPost CallsIn Does
instance mul64_any(x y:Int):CV Tryz.prog 167 [.int .u64 x,.int .u64 y] (.tuple #[.int .u64 (x*y/18446744073709551616),.int .u64 (x*y%18446744073709551616)]) ((0≤x∧x<18446744073709551616)∧(0≤y∧y<18446744073709551616)):=⟨fun hc w=>by
 refine does_of Tryz.func167 rfl Tryz.ntmps167 rfl ⟨by simp,.nil⟩ (fun n=>?_)
 simp only[slots]
 refine z_gob
 refine j_out2 rfl rfl rfl Sub.au ⟨?_,rfl⟩
 obtain⟨h1,h2,h3,h4,h5⟩:=mul64_key (x0:=x%4294967296) (x1:=x/4294967296) (y0:=y%4294967296) (y1:=y/4294967296) (by omega) (by omega) (by omega) (by omega)
 rw[show x/4294967296*4294967296+x%4294967296=x by omega,show y/4294967296*4294967296+y%4294967296=y by omega]at h5
 simp only[shr32,IntKind.wrap_u64,and_mask hc.1,and_mask hc.2]
 rw[and_mask (by omega)]
 generalize x%4294967296*(y%4294967296)=p00 at *
 generalize x/4294967296*(y%4294967296)=p10 at *
 generalize x%4294967296*(y/4294967296)=p01 at *
 generalize x/4294967296*(y/4294967296)=p11 at *
 generalize x*y=z at *
 congr 4
 omega⟩
@[reducible] def wideV(z:Int):List Value:=[.int .i64 (z/18446744073709551616),.int .u64 (z%18446744073709551616)]
def absI(x:Int):Int:=if x<0 then -x else x
instance magnitude_any(x:Int):CV Tryz.prog 213 [.int .i64 x] (.int .u64 (absI x)) (InR .i64 x):=⟨fun hc w=>by
 refine does_of Tryz.func213 rfl Tryz.ntmps213 rfl ⟨by simp,.nil⟩ (fun n=>?_)
 simp only[slots]
 simp only[InR]at hc
 refine z_gob
 all_goals exact j_out1 rfl rfl Sub.au ⟨congrArg (Value.int .u64) (by unfold absI;split<;>(first|(simp only[IntKind.wrap_u64];omega)|omega)),rfl⟩⟩
theorem wide_eq{A B A' B':Int}{c:Bool}(h1:A=A')(h2:B=B')(h3:c=true):retV [.agg #[.int .i64 A,.int .u64 B],.bool c]=Value.tuple #[.agg #[.int .i64 A',.int .u64 B'],.bool true]:=by subst h1 h2 h3;rfl
instance addw_any(x y:Int):CV Tryz.prog 184 [.agg (wideV x).toArray,.agg (wideV y).toArray] (.tuple #[.agg (wideV (x+y)).toArray,.bool true]) ((0≤x∧x<4611686018427387904)∧(0≤y∧y<4611686018427387904)):=⟨fun hc w=>by
 refine does_of Tryz.func184 rfl Tryz.ntmps184 rfl ⟨by simp,.nil⟩ (fun n=>?_)
 simp only[slots]
 simp only[wideV]
 rw[show x/18446744073709551616=0 by omega,show y/18446744073709551616=0 by omega]
 refine z_gob
 refine c_dre 1 rfl rfl (by decide) (by decide +kernel) ?_
 refine z_gob
 all_goals (refine z_ro;refine⟨wide_eq (by omega) (by omega) ?_,rfl⟩)
 all_goals first|rfl|(simp;omega)⟩
def orB(r:Int)(k:Nat):Int:=bits .or .u64 r (IntKind.u64.wrap (1*2^(min ((63:Int)-k).toNat IntKind.u64.bits)))
theorem or_in(a b:Int):0≤bits .or .u64 a b∧bits .or .u64 a b<18446744073709551616:=by
 have h:∀z:Int,0≤IntKind.u64.wrap z∧IntKind.u64.wrap z<18446744073709551616:=fun z=>by rw[IntKind.wrap_u64];omega
 exact h _
instance sub64_x(x y c:Int):XV Tryz.prog 242 [.int .u64 x,.int .u64 y,.int .u64 c] (.tuple #[.int .u64 ((x-y-c)%18446744073709551616),.int .u64 (if x<y+c then 1 else 0)]) ((0≤x∧x<18446744073709551616)∧(0≤y∧y<18446744073709551616)∧0≤c∧c≤1):=⟨fun hc w=>by
 obtain⟨X,rfl⟩:∃n:Nat,x=n:=⟨x.toNat,by omega⟩
 obtain⟨Y,rfl⟩:∃n:Nat,y=n:=⟨y.toNat,by omega⟩
 obtain⟨C,rfl⟩:∃n:Nat,c=n:=⟨c.toNat,by omega⟩
 have:=run_callFunc_extern (e:=sub64Entry) Tryz.func242 (by kernel_rfl) (by kernel_rfl) (by kernel_rfl) (by kernel_rfl) [.int .u64 (X:Int),.int .u64 (Y:Int),.int .u64 (C:Int)].toArray w
 rw[this,run_sub64 X Y C (by omega)]
 have e1:(((X+18446744073709551616-Y-C)%18446744073709551616:Nat):Int)=((X:Int)-Y-C)%18446744073709551616:=by omega
 have e2:((if X<Y+C then 1 else 0:Nat):Int)=if (X:Int)<Y+C then 1 else 0:=by
  split<;>rename_i h
  ·rw[if_pos (by omega)];rfl
  ·rw[if_neg (by omega)];rfl
 rw[e1,e2]
 rfl⟩
theorem wideA_eq{A B A' B':Int}(h1:A=A')(h2:B=B'):retV [.agg #[.int .i64 A,.int .u64 B]]=Value.agg #[.int .i64 A',.int .u64 B']:=by subst h1 h2;rfl
instance negw_any(z:Int):CV Tryz.prog 212 [.agg (wideV z).toArray] (.agg (wideV (-z)).toArray) (-4611686018427387904≤z∧z≤4611686018427387904):=⟨fun hc w=>by
 refine does_of Tryz.func212 rfl Tryz.ntmps212 rfl ⟨by simp,.nil⟩ (fun n=>?_)
 simp only[slots]
 refine z_gob
 refine z_ro
 refine⟨wideA_eq ?_ (by omega),rfl⟩
 rw[IntKind.wrap_u64,IntKind.wrap_u64,IntKind.wrap_u64,IntKind.wrap_i64]
 split<;>omega⟩
theorem absI_mul(a b:Int):absI a*absI b=absI (a*b):=by
 unfold absI
 rcases Int.lt_or_le a 0 with ha|ha<;>rcases Int.lt_or_le b 0 with hb|hb
 ·rw[if_pos ha,if_pos hb,if_neg (by have:=Int.mul_pos_of_neg_of_neg ha hb;omega),Int.neg_mul_neg]
 ·rw[if_pos ha,if_neg (by omega)]
  rcases Int.lt_or_le 0 b with h0|h0
  ·rw[if_pos (Int.mul_neg_of_neg_of_pos ha h0),Int.neg_mul]
  ·obtain rfl:b=0:=by omega
   simp
 ·rw[if_pos hb,if_neg (by omega)]
  rcases Int.lt_or_le 0 a with h0|h0
  ·rw[if_pos (Int.mul_neg_of_pos_of_neg h0 hb),Int.mul_neg]
  ·obtain rfl:a=0:=by omega
   simp
 ·rw[if_neg (by omega),if_neg (by omega),if_neg (by have:=Int.mul_nonneg ha hb;omega)]
theorem absI_sgn(a b:Int)(h:(a<0)=(b<0)∨a*b=0):absI (a*b)=a*b:=by
 rcases h with h|h
 ·unfold absI
  rcases Int.lt_or_le a 0 with ha|ha
  ·rw[if_neg (by have:=Int.mul_pos_of_neg_of_neg ha (h▸ha);omega)]
  ·have hb:¬b<0:=h▸(by omega:¬a<0)
   rw[if_neg (by have:=Int.mul_nonneg ha (by omega:0≤b);omega)]
 ·rw[h];rfl
theorem absI_neg(a b:Int)(h:(a<0)≠(b<0)): - absI (a*b)=a*b:=by
 unfold absI
 rcases Int.lt_or_le a 0 with ha|ha<;>rcases Int.lt_or_le b 0 with hb|hb
 ·exact absurd (propext ⟨fun _=>hb,fun _=>ha⟩) h
 ·have:=Int.mul_nonpos_of_nonpos_of_nonneg (by omega:a≤0) hb
  split<;>omega
 ·have:=Int.mul_nonpos_of_nonneg_of_nonpos ha (by omega:b≤0)
  split<;>omega
 ·exact absurd (propext ⟨fun _=>by omega,fun _=>by omega⟩) h
instance mulw_any(a b:Int):CV Tryz.prog 161 [.int .i64 a,.int .i64 b] (.agg (wideV (a*b)).toArray) (InR .i64 a∧InR .i64 b∧-4611686018427387904≤a*b∧a*b≤4611686018427387904):=⟨fun hc w=>by
 have h1:=absI_mul a b
 have h2:0≤absI (a*b)∧absI (a*b)≤4611686018427387904:=by unfold absI;split<;>omega
 have ha:0≤absI a∧absI a<18446744073709551616:=by unfold absI;split<;>omega
 have hb:0≤absI b∧absI b<18446744073709551616:=by unfold absI;split<;>omega
 refine does_of Tryz.func161 rfl Tryz.ntmps161 rfl ⟨by simp,.nil⟩ (fun n=>?_)
 simp only[slots]
 rw[← h1]at h2
 refine z_gob
 ·rename_i h
  refine z_ro
  refine⟨?_,rfl⟩
  rw[h1,absI_neg a b (fun e=>h (by rw[e]))]
  rfl
 ·rename_i h
  refine z_ro
  refine⟨?_,rfl⟩
  rw[h1,absI_sgn a b (.inl (propext (Classical.not_not.1 h)))]
  rfl⟩
def upB(mode rest by':Int)(minus:Bool):Bool:=decide (rest≠0)&&((decide (mode=0)&&minus)||(decide (mode=1)&&!minus)||(decide (mode=2)&&(decide (by'<2*rest)||(decide (by'=2*rest)&&!minus))))
instance up_any(mode rest by':Int)(minus:Bool):CV Tryz.prog 215 [.int .i64 mode,.int .u64 rest,.int .u64 by',.bool minus] (.bool (upB mode rest by' minus)) (0≤rest∧rest<by'∧by'<9223372036854775808):=⟨fun hc w=>by
 refine does_of Tryz.func215 rfl Tryz.ntmps215 rfl ⟨by simp,.nil⟩ (fun n=>?_)
 simp only[slots]
 cases minus
 all_goals refine z_gob
 all_goals first
  | exact j_out1 rfl rfl (.nil _) ⟨congrArg Value.bool (by unfold upB;simp;omega),rfl⟩
  | fail⟩
theorem two_eq{A A':Int}{c:Bool}(h1:A=A')(h2:c=true):retV [.int .i64 A,.bool c]=Value.tuple #[.int .i64 A',.bool true]:=by subst h1 h2;rfl
instance signed_any(m:Int)(minus:Bool):CV Tryz.prog 216 [.int .u64 m,.bool minus] (.tuple #[.int .i64 (bif minus then -m else m),.bool true]) (0≤m∧m<9223372036854775808):=⟨fun hc w=>by
 refine does_of Tryz.func216 rfl Tryz.ntmps216 rfl ⟨by simp,.nil⟩ (fun n=>?_)
 simp only[slots]
 cases minus
 all_goals refine z_gob
 all_goals refine z_ro
 ·exact⟨two_eq rfl (decide_eq_true (by omega)),rfl⟩
 ·exact⟨two_eq (by show IntKind.i64.wrap (IntKind.u64.wrap (0-m)) = -m;rw[IntKind.wrap_u64,IntKind.wrap_i64];omega) (decide_eq_true (by omega)),rfl⟩⟩
instance div64_0(lo y:Int):CV Tryz.prog 214 [.int .u64 0,.int .u64 lo,.int .u64 y] (.tuple #[.int .u64 (lo/y),.int .u64 (lo%y)]) ((0≤lo∧lo<18446744073709551616)∧0<y∧y<18446744073709551616):=⟨fun hc w=>by
 refine does_of Tryz.func214 rfl Tryz.ntmps214 rfl ⟨by simp,.nil⟩ (fun n=>?_)
 simp only[slots]
 refine z_gob
 exact j_out2 rfl rfl rfl (.nil _) ⟨rfl,rfl⟩⟩
def divV(z b mode:Int):Int:=bif decide (z<0)then -(absI z/b+if upB mode (absI z%b) b (decide (z<0))then 1 else 0)else absI z/b+if upB mode (absI z%b) b (decide (z<0))then 1 else 0
instance divw_any(z b mode:Int):CV Tryz.prog 160 [.agg (wideV z).toArray,.int .i64 b,.int .i64 mode] (.tuple #[.int .i64 (divV z b mode),.int .i64 0]) ((-4611686018427387904≤z∧z≤4611686018427387904)∧(0<b∧b≤4611686018427387904)∧0≤mode∧mode≤3):=⟨fun hc w=>by
 obtain⟨⟨c1,c2⟩,⟨c3,c4⟩,c5,c6⟩:=hc
 have hab:absI b=b:=by unfold absI;rw[if_neg (by omega)]
 have hq:0≤absI z/b∧absI z/b≤4611686018427387904:=by
  have h0:0≤absI z∧absI z≤4611686018427387904:=by unfold absI;split<;>omega
  exact⟨Int.ediv_nonneg h0.1 (by omega),Int.le_trans (Int.ediv_le_self _ h0.1) h0.2⟩
 have hr:0≤absI z%b∧absI z%b<b:=⟨Int.emod_nonneg _ (by omega),Int.emod_lt_of_pos _ c3⟩
 refine does_of Tryz.func160 rfl Tryz.ntmps160 rfl ⟨by simp,.nil⟩ (fun n=>?_)
 simp only[slots]
 rcases Int.lt_or_le z 0 with hz|hz
 ·have hz1:z/18446744073709551616 = -1:=by omega
  have ez:absI z = -z:=by unfold absI;rw[if_pos hz]
  have e1 : -z/18446744073709551616=0:=by omega
  have e2 : -z%18446744073709551616 = -z:=by omega
  unfold divV
  rw[ez]at hq hr
  rw[decide_eq_true hz,ez]
  refine z_tas
  refine j_set 8 _ rfl (v':=.bool true) (congrArg Value.bool (by rw[decide_eq_true (by omega:z/18446744073709551616<0),decide_eq_false (by omega:¬b<0)];rfl)) ?_
  simp only[e1,e2,hab]
  refine z_tas
  all_goals refine z_ro
  all_goals first
   | (rw[if_pos (by assumption)];exact⟨rfl,rfl⟩)
   | (rw[if_neg (by assumption),Int.add_zero];exact⟨rfl,rfl⟩)
 ·have hz1:z/18446744073709551616=0:=by omega
  have hz2:z%18446744073709551616=z:=by omega
  have ez:absI z=z:=by unfold absI;rw[if_neg (by omega)]
  unfold divV
  simp only[wideV]
  rw[ez]at hq hr
  rw[decide_eq_false (by omega:¬z<0),ez]
  rw[hz1,hz2]
  refine z_tas
  refine j_set 57 _ rfl (v':=.bool false) (congrArg Value.bool (by rw[decide_eq_false (by omega:¬b<0)];rfl)) ?_
  refine j_set 8 _ rfl (v':=.bool false) (congrArg Value.bool (by rw[decide_eq_false (by omega:¬b<0)];rfl)) ?_
  simp only[hab]
  refine z_tas
  all_goals refine z_ro
  all_goals first
   | (rw[if_pos (by assumption)];exact⟨rfl,rfl⟩)
   | (rw[if_neg (by assumption),Int.add_zero];exact⟨rfl,rfl⟩)⟩
instance muldiv_any(a b c mode:Int):CV Tryz.prog 103 [.int .i64 a,.int .i64 b,.int .i64 c,.int .i64 mode] (.tuple #[.int .i64 (divV (a*b) c mode),.int .i64 0]) ((InR .i64 a∧InR .i64 b∧-4611686018427387904≤a*b∧a*b≤4611686018427387904)∧(0<c∧c≤4611686018427387904)∧0≤mode∧mode≤3):=⟨fun hc w=>by
 obtain⟨⟨c1,c2,c3,c4⟩,c5,c6⟩:=hc
 refine does_of Tryz.func103 rfl Tryz.ntmps103 rfl ⟨by simp,.nil⟩ (fun n=>?_)
 simp only[slots]
 refine z_tas
 refine z_ro
 exact⟨rfl,rfl⟩⟩
theorem divV_down{z b:Int}(hb:0<b):divV z b 0=z/b:=by
 have h1:=Int.mul_ediv_add_emod (absI z) b
 have h2:=Int.emod_nonneg (absI z) (by omega:b≠0)
 have h3:=Int.emod_lt_of_pos (absI z) hb
 unfold divV upB
 generalize absI z/b=q at *
 generalize absI z%b=r at *
 rcases Int.lt_or_le z 0 with hz|hz
 ·have ez:absI z = -z:=by unfold absI;rw[if_pos hz]
  rw[ez]at h1
  rw[decide_eq_true hz]
  rcases Int.lt_or_le 0 r with hr|hr
  ·simp only[show decide (r≠0)=true from decide_eq_true (by omega)]
   simp only[decide_true,Bool.and_self,Bool.true_or,Bool.and_true,if_true,cond_true]
   refine((Int.ediv_emod_unique (r:=b-r) (q:=-(q+1)) hb).2 ⟨?_,by omega,by omega⟩).1.symm
   rw[Int.mul_neg,Int.mul_add,Int.mul_one];omega
  ·obtain rfl:r=0:=by omega
   simp only[ne_eq,not_true_eq_false,decide_false,Bool.false_and,cond_true,Bool.false_eq_true,if_false,Int.add_zero]
   refine((Int.ediv_emod_unique (r:=0) (q:=-q) hb).2 ⟨?_,by omega,by omega⟩).1.symm
   rw[Int.mul_neg];omega
 ·have ez:absI z=z:=by unfold absI;rw[if_neg (by omega)]
  rw[ez]at h1
  rw[decide_eq_false (by omega:¬z<0)]
  simp only[Bool.and_false,Bool.or_false,Bool.false_or,Bool.not_false,Bool.and_true,cond_false,show decide ((0:Int)=1)=false from rfl,show decide ((0:Int)=2)=false from rfl,Bool.false_and,Bool.false_eq_true,if_false,Int.add_zero]
  exact((Int.ediv_emod_unique (r:=r) (q:=q) hb).2 ⟨by omega,by omega,by omega⟩).1.symm
theorem divV_near{z b:Int}(hb:0<b):divV z b 2=(2*z+b)/(2*b):=by
 have h1:=Int.mul_ediv_add_emod (absI z) b
 have h2:=Int.emod_nonneg (absI z) (by omega:b≠0)
 have h3:=Int.emod_lt_of_pos (absI z) hb
 unfold divV upB
 generalize absI z/b=q at *
 generalize absI z%b=r at *
 have key:∀x s:Int,2*z+b=2*(b*x)+s→0≤s→s<2*b→x=(2*z+b)/(2*b):=fun x s e h4 h5 =>
  ((Int.ediv_emod_unique (r:=s) (q:=x) (by omega:0<2*b)).2 ⟨by rw[Int.mul_assoc];omega,h4,h5⟩).1.symm
 rcases Int.lt_or_le z 0 with hz|hz
 ·have ez:absI z = -z:=by unfold absI;rw[if_pos hz]
  rw[ez]at h1
  rw[decide_eq_true hz]
  simp only[cond_true,Bool.not_true,Bool.and_false,Bool.or_false,show decide ((2:Int)=0)=false from rfl,show decide ((2:Int)=1)=false from rfl,show decide ((2:Int)=2)=true from rfl,Bool.false_and,Bool.false_or,Bool.true_and]
  rcases Int.lt_or_le b (2*r) with hr|hr
  ·rw[decide_eq_true hr,decide_eq_true (by omega:r≠0)]
   rw[show (true&&(decide True&&true))=true from rfl,if_pos rfl]
   exact key _ (3*b-2*r) (by rw[Int.mul_neg,Int.mul_add,Int.mul_one];omega) (by omega) (by omega)
  ·rw[decide_eq_false (by omega:¬b<2*r)]
   simp only[Bool.and_false,Bool.false_eq_true,if_false,Int.add_zero]
   exact key _ (b-2*r) (by rw[Int.mul_neg];omega) (by omega) (by omega)
 ·have ez:absI z=z:=by unfold absI;rw[if_neg (by omega)]
  rw[ez]at h1
  rw[decide_eq_false (by omega:¬z<0)]
  simp only[cond_false,Bool.not_false,Bool.and_true,show decide ((2:Int)=0)=false from rfl,show decide ((2:Int)=1)=false from rfl,show decide ((2:Int)=2)=true from rfl,Bool.false_and,Bool.false_or,Bool.true_and]
  rcases Int.lt_or_le (2*r) b with hr|hr
  ·rw[decide_eq_false (by omega:¬b<2*r),decide_eq_false (by omega:¬b=2*r)]
   simp only[Bool.or_self,Bool.and_false,Bool.false_eq_true,if_false,Int.add_zero]
   exact key _ (b+2*r) (by omega) (by omega) (by omega)
  ·have e:(decide (b<2*r)||decide (b=2*r))=true:=by
    rw[Bool.or_eq_true,decide_eq_true_eq,decide_eq_true_eq];omega
   rw[e,decide_eq_true (by omega:r≠0)]
   rw[show (true&&(decide True&&true))=true from rfl,if_pos rfl]
   exact key _ (2*r-b) (by rw[Int.mul_add,Int.mul_one];omega) (by omega) (by omega)
end Go.Proofs.YthajpemlpmlefaaGreat
namespace Go.Proofs.YthajpemlpmlefaaGreat
open Go.RowKit
def isq:Nat→Nat
 | 0=>0
 | x+1=>if (isq x+1)*(isq x+1)≤x+1 then isq x+1 else isq x
theorem isq_spec:∀x,isq x*isq x≤x∧x<(isq x+1)*(isq x+1)
 | 0=>by simp[isq]
 | x+1=>by
  obtain⟨h1,h2⟩:=isq_spec x
  rw[isq]
  generalize isq x=r at *
  have e1:(r+1)*(r+1)=r*r+2*r+1:=by rw[Nat.add_mul,Nat.mul_add];omega
  have e2:(r+1+1)*(r+1+1)=r*r+4*r+4:=by rw[Nat.add_mul,Nat.mul_add,Nat.add_mul,Nat.mul_add];omega
  split
  ·exact⟨by assumption,by omega⟩
  ·exact⟨by omega,by omega⟩
theorem isq_of{x r:Nat}(h1:r*r≤x)(h2:x<(r+1)*(r+1)):isq x=r:=by
 obtain⟨g1,g2⟩:=isq_spec x
 rcases Nat.lt_trichotomy (isq x) r with h|h|h
 ·have:=Nat.mul_le_mul h h
  rw[Nat.succ_eq_add_one]at this
  omega
 ·exact h
 ·have:=Nat.mul_le_mul h h
  rw[Nat.succ_eq_add_one]at this
  omega
theorem l_str{F:Fence}{n:Nat}{P:Program}{N:Nat}{ds:List Deferred}{w0:World}{W:Nat→Prop}{σ:List (Nat×Value)}{H:List HE}{Q:Exit→Act→World→Prop}{ops:Array Oper}{rest:List Oper}{d:Nat}{ty:TypeId}{pos:String}{aft:Array Edge}{gd:Option (Nat×Bool)}[Wide F]{x y:Operand}{t:TypeId}{s:ByteArray}{k:IntKind}{i:Nat}[hu:Und P t .string]
  (hw:wantd ops σ ⟨some d,.index t x y,ty,pos,aft,gd⟩=some true) (hx:ev σ x=some (.string s)) (hy:ev σ y=some (.int k (i:Int))) (hs:Nat.ble 256 s.size=true) (hi:i<256) (hT:∀i:Fin 256,(i:Nat)<2^(s.data.getD i 0).toNat∧(s.data.getD i 0).toNat≤8) (hdN:Nat.blt d N=true)
  (h:∀t:Nat,i<2^t→t≤8→J N ds w0 W ((d,.int .u8 (t:Nat))::σ) H (wpListIn F n P ops Q rest)):J N ds w0 W σ H (wpListIn F n P ops Q (⟨some d,.index t x y,ty,pos,aft,gd⟩::rest)) :=
 l_run hw (o_val (by simp) rfl hdN (fun a w ha _=>by
  have hc:i<s.size:=Nat.lt_of_lt_of_le hi (Nat.le_of_ble_eq_true hs)
  have e:s[i]? = some (s.data.getD i 0):=by
   have h1:s[i]? = some s[i]:=by simp[getElem?_pos,hc]
   have hc':i<s.data.size:=hc
   rw[h1]
   congr 1
   show s.data[i]=_
   rw[Array.getD_eq_getD_getElem?,Array.getElem?_eq_getElem hc']
   rfl
  simp[execOp,ha.eval hx,ha.eval hy,Instr.index,run_underlying hu.h,asIntOf,e]) (h _ (hT ⟨i,hi⟩).1 (hT ⟨i,hi⟩).2))
attribute [local irreducible] OJ J HdJ Code.wpIn wpListIn Oper.wpIn bodyPost CallsIn Does
theorem lenR{x v b t:Nat}{n:Int}(h1:v<2^t)(h2:t≤8)(hn:n=(b:Int)+(t:Nat))(e:v=x/2^b)(hb:b≤56):0≤n∧n≤64∧x<2^n.toNat:=by
 have en:n.toNat=b+t:=by omega
 refine⟨by omega,by omega,?_⟩
 rw[en,Nat.pow_add,Nat.mul_comm]
 rw[e]at h1
 exact(Nat.div_lt_iff_lt_mul (Nat.two_pow_pos b)).1 h1
theorem len64_any(x:Nat)(w:World)(hx:x<18446744073709551616):Does Tryz.prog 218 [.int .u64 x] [] w (fun v S'=>∃n:Int,v=.int .i64 n∧(0≤n∧n≤64∧x<2^n.toNat)∧S'=[]):=by
 refine does_of Tryz.func218 rfl Tryz.ntmps218 rfl ⟨by simp,.nil⟩ (fun n=>?_)
 simp only[slots]
 refine z_tas
 all_goals first
  | (refine j_set 21 _ rfl (v':=.int .u8 ((x/4294967296/65536/256:Nat):Int)) (congrArg (Value.int .u8) (by omega)) ?_;refine z_tas;refine l_str rfl rfl rfl (by decide +kernel) (by omega) (by decide +kernel) rfl fun t h1 h2=>?_;refine z_tas;refine j_out1 rfl rfl (.nil _) ?_;refine⟨_,rfl,?_,rfl⟩;exact lenR (b:=56) h1 h2 (by omega) (by omega) (by omega))
  | (refine j_set 21 _ rfl (v':=.int .u8 ((x/4294967296/65536:Nat):Int)) (congrArg (Value.int .u8) (by omega)) ?_;refine z_tas;refine l_str rfl rfl rfl (by decide +kernel) (by omega) (by decide +kernel) rfl fun t h1 h2=>?_;refine z_tas;refine j_out1 rfl rfl (.nil _) ?_;refine⟨_,rfl,?_,rfl⟩;exact lenR (b:=48) h1 h2 (by omega) (by omega) (by omega))
  | (refine j_set 21 _ rfl (v':=.int .u8 ((x/4294967296/256:Nat):Int)) (congrArg (Value.int .u8) (by omega)) ?_;refine z_tas;refine l_str rfl rfl rfl (by decide +kernel) (by omega) (by decide +kernel) rfl fun t h1 h2=>?_;refine z_tas;refine j_out1 rfl rfl (.nil _) ?_;refine⟨_,rfl,?_,rfl⟩;exact lenR (b:=40) h1 h2 (by omega) (by omega) (by omega))
  | (refine j_set 21 _ rfl (v':=.int .u8 ((x/4294967296:Nat):Int)) (congrArg (Value.int .u8) (by omega)) ?_;refine z_tas;refine l_str rfl rfl rfl (by decide +kernel) (by omega) (by decide +kernel) rfl fun t h1 h2=>?_;refine z_tas;refine j_out1 rfl rfl (.nil _) ?_;refine⟨_,rfl,?_,rfl⟩;exact lenR (b:=32) h1 h2 (by omega) (by omega) (by omega))
  | (refine j_set 21 _ rfl (v':=.int .u8 ((x/65536/256:Nat):Int)) (congrArg (Value.int .u8) (by omega)) ?_;refine z_tas;refine l_str rfl rfl rfl (by decide +kernel) (by omega) (by decide +kernel) rfl fun t h1 h2=>?_;refine z_tas;refine j_out1 rfl rfl (.nil _) ?_;refine⟨_,rfl,?_,rfl⟩;exact lenR (b:=24) h1 h2 (by omega) (by omega) (by omega))
  | (refine j_set 21 _ rfl (v':=.int .u8 ((x/65536:Nat):Int)) (congrArg (Value.int .u8) (by omega)) ?_;refine z_tas;refine l_str rfl rfl rfl (by decide +kernel) (by omega) (by decide +kernel) rfl fun t h1 h2=>?_;refine z_tas;refine j_out1 rfl rfl (.nil _) ?_;refine⟨_,rfl,?_,rfl⟩;exact lenR (b:=16) h1 h2 (by omega) (by omega) (by omega))
  | (refine j_set 21 _ rfl (v':=.int .u8 ((x/256:Nat):Int)) (congrArg (Value.int .u8) (by omega)) ?_;refine z_tas;refine l_str rfl rfl rfl (by decide +kernel) (by omega) (by decide +kernel) rfl fun t h1 h2=>?_;refine z_tas;refine j_out1 rfl rfl (.nil _) ?_;refine⟨_,rfl,?_,rfl⟩;exact lenR (b:=8) h1 h2 (by omega) (by omega) (by omega))
  | (refine j_set 21 _ rfl (v':=.int .u8 ((x:Nat):Int)) (congrArg (Value.int .u8) (by omega)) ?_;refine z_tas;refine l_str rfl rfl rfl (by decide +kernel) (by omega) (by decide +kernel) rfl fun t h1 h2=>?_;refine z_tas;refine j_out1 rfl rfl (.nil _) ?_;refine⟨_,rfl,?_,rfl⟩;exact lenR (b:=0) h1 h2 (by omega) (by omega) (by omega))
  | (exfalso;omega)
theorem or_pow{r q:Nat}(hq:q≤62)(hr:r<4294967296)(hm:r%2^(q+1)=0):bits .or .u64 (r:Int) (IntKind.u64.wrap (1*2^(min (q:Int).toNat IntKind.u64.bits)))=((r+2^q:Nat):Int):=by
 have hp:2^q<9223372036854775808:=Nat.lt_of_lt_of_le (Nat.pow_lt_pow_right (by decide) (by omega:q<63)) (Nat.le_refl _)
 have e1:IntKind.u64.wrap (1*2^(min (q:Int).toNat IntKind.u64.bits))=((2^q:Nat):Int):=by
  rw[Int.toNat_natCast,Nat.min_eq_left (show q≤IntKind.u64.bits from (by omega:q≤64)),Int.one_mul,IntKind.wrap_u64]
  have e:((2:Int)^q)=((2^q:Nat):Int):=by rw[Int.natCast_pow];rfl
  rw[e]
  generalize 2^q=p at *
  omega
 rw[e1,bits_or_u64_nat _ _ (by omega) (by omega)]
 congr 1
 have h2:=Nat.two_pow_add_eq_or_of_lt (i:=q+1) (b:=2^q) (by rw[Nat.pow_succ];have:=Nat.two_pow_pos q;omega) (r/2^(q+1))
 rw[show 2^(q+1)*(r/2^(q+1))=r by have:=Nat.div_add_mod r (2^(q+1));omega]at h2
 exact h2.symm
theorem floor_any(x:Nat)(w:World)(hx:x<18446744073709551616):Does Tryz.prog 111 [.int .u64 x] [] w (fun v S'=>v=.int .u64 (isq x:Nat)∧S'=[]):=by
 refine does_of Tryz.func111 rfl Tryz.ntmps111 rfl ⟨by simp,.nil⟩ (fun n=>?_)
 simp only[slots]
 refine z_tas
 refine lf rfl rfl rfl (S:=[]) (fun w _ ho=>(show Does Tryz.prog 165 [.int .u64 x] [] w (fun v S'=>∃n:Int,v=.int .i64 n∧(0≤n∧n≤64∧x<2^n.toNat)∧S'=[]) by
  refine does_of Tryz.func165 rfl Tryz.ntmps165 rfl ⟨by simp,.nil⟩ (fun n=>?_)
  simp only[slots]
  refine z_tas
  refine lf rfl rfl rfl (S:=[]) (fun w _ ho=>len64_any x w hx) ?_
  rintro v S' ⟨m,rfl,h1,rfl⟩
  refine z_tas
  exact j_out1 rfl rfl (.nil _) ⟨m,rfl,h1,rfl⟩)) ?_
 rintro v S' ⟨m,rfl,⟨m1,m2,m3⟩,rfl⟩
 obtain⟨k,rfl⟩:∃k:Nat,m=k:=⟨m.toNat,by omega⟩
 rw[Int.toNat_natCast]at m3
 refine z_tas
 have h0:x<(0+2^((k+1)/2+1))*(0+2^((k+1)/2+1)):=by
  rw[Nat.zero_add,← Nat.pow_add]
  exact Nat.lt_of_lt_of_le m3 (Nat.pow_le_pow_right (by decide) (by omega))
 refine c_loop (X:=Nat×Nat) (fun q=>q.1≤33∧q.2*q.2≤x∧x<(q.2+2^q.1)*(q.2+2^q.1)∧q.2%2^q.1=0∧q.2<4294967296) (fun q=>[(0,.int .u64 x),(3,.int .u64 q.2),(4,.int .i64 ((q.1:Int)-1))]) (fun _=>[]) (fun q=>q.1) ((k+1)/2+1,0) ⟨by show (k+1)/2+1≤33;omega,Nat.zero_le _,h0,Nat.zero_mod _,(by decide:(0:Nat)<4294967296)⟩ ⟨rfl,rfl,by simp[look],trivial⟩ (.nil _) ?_
 rintro⟨p,r⟩ ⟨hp,h1,h2,h3,h4⟩
 dsimp only at hp h1 h2 h3 h4 ⊢
 cases p with
 | zero =>
  have e:isq x=r:=isq_of h1 (by simpa using h2)
  rw[e]
  refine z_tas
  exact j_out1 rfl rfl (.nil _) ⟨rfl,rfl⟩
 | succ q =>
  have hor:=or_pow (r:=r) (q:=q) (by omega) h4 h3
  have hq1:((q+1:Nat):Int)-1=q:=by omega
  rw[hq1]
  have io:∀(w0:World) (W:Nat→Prop) (H:List HE) (t u:TypeId) (a b:Operand),MS Tryz.prog w0 W H (.binOp .or t a b u) [.int .u64 (r:Int),.int .u64 (IntKind.u64.wrap (1*2^(min (q:Int).toNat IntKind.u64.bits)))] (.int .u64 ((r+2^q:Nat):Int)) True:=fun w0 W H t u a b=>by
   have h:=(inferInstance:MS Tryz.prog w0 W H (.binOp .or t a b u) [.int .u64 (r:Int),.int .u64 (IntKind.u64.wrap (1*2^(min (q:Int).toNat IntKind.u64.bits)))] (.int .u64 (bits .or .u64 (r:Int) (IntKind.u64.wrap (1*2^(min (q:Int).toNat IntKind.u64.bits))))) True)
   rw[hor]at h
   exact h
  have e2:2^(q+1)=2^q+2^q:=by rw[Nat.pow_succ];omega
  have hrm:r%2^q=0:=by
   have:=Nat.mod_mod_of_dvd r (show 2^q ∣ 2^(q+1)from ⟨2,by rw[Nat.pow_succ]⟩)
   rw[h3,Nat.zero_mod]at this
   exact this.symm
  have hn2:(r+2^q)%2^q=0:=by rw[Nat.add_mod_right];exact hrm
  have hsq:r+2^q<4294967296→(r+2^q)*(r+2^q)<18446744073709551616:=fun h=>Nat.lt_of_le_of_lt (Nat.mul_le_mul (by omega:r+2^q≤4294967295) (by omega:r+2^q≤4294967295)) (by decide)
  have hbig:4294967296≤r+2^q→18446744073709551616≤(r+2^q)*(r+2^q):=fun h=>Nat.mul_le_mul h h
  have hpq:2^q≤8589934592:=Nat.le_trans (Nat.pow_le_pow_right (by decide) (by omega:q≤33)) (by decide)
  rw[e2,← Nat.add_assoc]at h2
  generalize hnx:r+2^q=nx at *
  have hc:((nx:Int)*(nx:Int))=((nx*nx:Nat):Int):=by push_cast;rfl
  generalize hN:nx*nx=N2 at *
  clear hpq hor h3 e2 hq1
  rcases Nat.lt_or_ge nx 4294967296 with hnn|hnn
  case' inl =>
   have hs1:=hsq hnn
   have il:∀(w0:World) (W:Nat→Prop) (H:List HE) (t u:TypeId) (a b:Operand),MS Tryz.prog w0 W H (.binOp .lss t a b u) [.int .u64 (nx:Int),.int .u64 4294967296] (.bool true) True:=fun w0 W H t u a b=>by
    have h:=(inferInstance:MS Tryz.prog w0 W H (.binOp .lss t a b u) [.int .u64 (nx:Int),.int .u64 4294967296] (.bool (decide ((nx:Int)<4294967296))) True)
    rw[decide_eq_true (by omega)]at h
    exact h
  case' inr =>
   have hs1:=hbig hnn
   have il:∀(w0:World) (W:Nat→Prop) (H:List HE) (t u:TypeId) (a b:Operand),MS Tryz.prog w0 W H (.binOp .lss t a b u) [.int .u64 (nx:Int),.int .u64 4294967296] (.bool false) True:=fun w0 W H t u a b=>by
    have h:=(inferInstance:MS Tryz.prog w0 W H (.binOp .lss t a b u) [.int .u64 (nx:Int),.int .u64 4294967296] (.bool (decide ((nx:Int)<4294967296))) True)
    rw[decide_eq_false (by omega)]at h
    exact h
  all_goals clear hsq hbig
  all_goals refine z_tas
  all_goals first
   | exact c_round (q,nx) ⟨by show q≤33;omega,by show nx*nx≤x;omega,by show x<(nx+2^q)*(nx+2^q);exact h2,hn2,by show nx<4294967296;omega⟩ (by show q<q+1;omega) ⟨rfl,rfl,by simp[look],trivial⟩ (.nil _)
   | exact c_round (q,r) ⟨by show q≤33;omega,h1,by show x<(r+2^q)*(r+2^q);rw[hnx,hN];omega,hrm,h4⟩ (by show q<q+1;omega) ⟨rfl,rfl,by simp[look],trivial⟩ (.nil _)
   | trace_state
end Go.Proofs.YthajpemlpmlefaaGreat
