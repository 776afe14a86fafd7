import Derived.Laws.Bits64b
import Derived.Laws.BitsLemmas
import Derived.Laws.Externs
import Derived.Shelf.Spec.BitsCarry
import Derived.Test.YtbhchphfmhmabaaGreatP17
set_option maxHeartbeats 512000000
set_option maxRecDepth 4000
set_option linter.unusedVariables false
set_option linter.unusedSimpArgs false
namespace Go.Proofs.YtbhchphfmhmabaaGreat
open Go.RowKit _root_.Go.Proofs.Tryz
class XV(P:Program)(f:FuncId)(us:List Value)(v:outParam Value)(c:outParam Prop):Prop where h:c→∀w,(callFunc f us.toArray).run P w=.ok (.value v) w
section
variable {F:Fence} {n:Nat} {P:Program} {N:Nat} {ds:List Deferred} {w0:World} {W:Nat→Prop} {σ:List (Nat×Value)} {H R S:List HE} {Q:Exit→Act→World→Prop}
variable {ops:Array Oper} {rest:List Oper} {d:Nat} {ty:TypeId} {pos:String} {aft:Array Edge} {gd:Option (Nat×Bool)} {v:Value} {us:List Value} {c:Prop}
theorem uZ[aU F]{f:FuncId}{args:Array Operand}{ts:Array TypeId}(hw:bT ops σ ⟨some d,.call ⟨.value (.func f),args,ts⟩,ty,pos,aft,gd⟩=some true)(hv:vals σ args.toList=some us)[hx:XV P f us v c](hdN:Nat.blt d N=true)(hc:c)
  (h:J N ds w0 W ((d,v)::σ) H (wpListIn F n P ops Q rest)):J N ds w0 W σ H (wpListIn F n P ops Q (⟨some d,.call ⟨.value (.func f),args,ts⟩,ty,pos,aft,gd⟩::rest)):=by
 refine jZ hw (dW aE rfl hdN (fun a w ha _=>?_) h);have hargs:args.map a.eval=us.toArray:=by rw[← yJ ha hv];apply Array.ext';simp
 have hf:a.eval (.func f)=.func (.func f) #[] #[]:=rfl;have e0:(#[]++us.toArray++#[]:Array Value)=us.toArray:=aE;simp only[execOp,resolve,invoke,Deferred.ofValue,Sem.run_bind,Sem.run_pure,Result.andThen_ok,hf,hargs,e0,hx.h hc w]
end
instance add64_x(x y c:Int):XV prog 247 [.int .u64 x,.int .u64 y,.int .u64 c] (.tuple #[.int .u64 ((x+y+c)%18446744073709551616),.int .u64 ((x+y+c)/18446744073709551616)]) (0≤x∧0≤y∧0≤c∧c≤1):=⟨fun hc w=>by have:=run_callFunc_extern (e:=add64Entry) func247 (by kernel_rfl) (by kernel_rfl) (by kernel_rfl) (by kernel_rfl) [.int .u64 x,.int .u64 y,.int .u64 c].toArray w;rw[this,run_add64 x y c oo oo oo oo];rfl⟩
theorem aA5{a:Int}(h:0≤a∧a<18446744073709551616):bits .and .u64 a 4294967295=a%4294967296:=by have:=bits_mask .u64 64 od (fun n h0 h1=>by rw[IntKind.wrap_u64];omega) 32 od a h.1 oo;exact this
theorem bAr(a:Int):a/2^(OfNat.ofNat 32:Nat)=a/4294967296:=rfl
theorem aWd{x0 x1 y0 y1:Int}(hx0:0≤x0∧x0<4294967296)(hx1:0≤x1∧x1<4294967296)(hy0:0≤y0∧y0<4294967296)(hy1:0≤y1∧y1<4294967296):
  (0≤x0*y0∧x0*y0≤18446744065119617025)∧(0≤x1*y0∧x1*y0≤18446744065119617025)∧(0≤x0*y1∧x0*y1≤18446744065119617025)∧(0≤x1*y1∧x1*y1≤18446744065119617025) ∧
  (x1*4294967296+x0)*(y1*4294967296+y0)=x1*y1*18446744073709551616+(x1*y0+x0*y1)*4294967296+x0*y0:=by
 have key:∀a b:Int,0≤a∧a<4294967296→0≤b∧b<4294967296→0≤a*b∧a*b≤18446744065119617025:=fun a b ha hb=>by have h1:=Int.mul_le_mul (show a≤4294967295 by omega) (show b≤4294967295 by omega) hb.1 oo;exact⟨Int.mul_nonneg ha.1 hb.1,oo⟩
 exact⟨key _ _ hx0 hy0,key _ _ hx1 hy0,key _ _ hx0 hy1,key _ _ hx1 hy1,by grind⟩
attribute [local irreducible] OJ J bM Code.wpIn wpListIn Oper.wpIn bodyPost CallsIn aF
instance mul64_any(x y:Int):CV prog 235 [.int .u64 x,.int .u64 y] (.tuple #[.int .u64 (x*y/18446744073709551616),.int .u64 (x*y%18446744073709551616)]) ((0≤x∧x<18446744073709551616)∧(0≤y∧y<18446744073709551616)):=⟨fun hc w=>by refine aJ func235 rfl ntmps235 rfl ⟨aE,.nil⟩ (fun n=>?_);simp only[aG];refine gR;refine cY rfl rfl rfl aA.au ⟨?_,rfl⟩;obtain⟨h1,h2,h3,h4,h5⟩:=aWd (x0:=x%4294967296) (x1:=x/4294967296) (y0:=y%4294967296) (y1:=y/4294967296) oo oo oo oo;rw[show x/4294967296*4294967296+x%4294967296=x by omega,show y/4294967296*4294967296+y%4294967296=y by omega]at h5;simp only[bAr,IntKind.wrap_u64,aA5 hc.1,aA5 hc.2];rw[aA5 oo];generalize x%4294967296*(y%4294967296)=p00 at *;generalize x/4294967296*(y%4294967296)=p10 at *;generalize x%4294967296*(y/4294967296)=p01 at *;generalize x/4294967296*(y/4294967296)=p11 at *;generalize x*y=z at *;congr 4;omega⟩
@[reducible] def cA(z:Int):List Value:=[.int .i64 (z/18446744073709551616),.int .u64 (z%18446744073709551616)]
def bJ(x:Int):Int:=if x<0 then -x else x
instance magnitude_any(x:Int):CV prog 236 [.int .i64 x] (.int .u64 (bJ x)) (bG .i64 x):=⟨fun hc w=>by refine aJ func236 rfl ntmps236 rfl ⟨aE,.nil⟩ (fun n=>?_);simp only[aG];simp only[bG]at hc;refine gR;all_goals exact aM rfl rfl aA.au ⟨congrArg (Value.int .u64) (by unfold bJ;split<;>(first|(simp only[IntKind.wrap_u64];omega)|omega)),rfl⟩⟩
theorem aOr{A B A' B':Int}{c:Bool}(h1:A=A')(h2:B=B')(h3:c=true):sU [.agg #[.int .i64 A,.int .u64 B],.bool c]=Value.tuple #[.agg #[.int .i64 A',.int .u64 B'],.bool true]:=by subst h1 h2 h3;rfl
instance addw_any(x y:Int):CV prog 202 [.agg (cA x).toArray,.agg (cA y).toArray] (.tuple #[.agg (cA (x+y)).toArray,.bool true]) ((0≤x∧x<4611686018427387904)∧(0≤y∧y<4611686018427387904)):=⟨fun hc w=>by
 refine aJ func202 rfl ntmps202 rfl ⟨aE,.nil⟩ (fun n=>?_);simp only[aG];simp only[cA];rw[show x/18446744073709551616=0 by omega,show y/18446744073709551616=0 by omega];refine gR;refine aIv 1 rfl rfl od bD ?_;refine gR;all_goals (refine bK;refine⟨aOr oo oo ?_,rfl⟩)
 all_goals first|rfl|(simp;omega)⟩
def orB(r:Int)(k:Nat):Int:=bits .or .u64 r (IntKind.u64.wrap (1*2^(min ((63:Int)-k).toNat IntKind.u64.bits)))
theorem aM9(a b:Int):0≤bits .or .u64 a b∧bits .or .u64 a b<18446744073709551616:=by
 have h:∀z:Int,0≤IntKind.u64.wrap z∧IntKind.u64.wrap z<18446744073709551616:=fun z=>by rw[IntKind.wrap_u64];omega
 exact h _
instance sub64_x(x y c:Int):XV prog 264 [.int .u64 x,.int .u64 y,.int .u64 c] (.tuple #[.int .u64 ((x-y-c)%18446744073709551616),.int .u64 (if x<y+c then 1 else 0)]) ((0≤x∧x<18446744073709551616)∧(0≤y∧y<18446744073709551616)∧0≤c∧c≤1):=⟨fun hc w=>by
 obtain⟨X,rfl⟩:∃n:Nat,x=n:=⟨x.toNat,oo⟩;obtain⟨Y,rfl⟩:∃n:Nat,y=n:=⟨y.toNat,oo⟩;obtain⟨C,rfl⟩:∃n:Nat,c=n:=⟨c.toNat,oo⟩;have:=run_callFunc_extern (e:=sub64Entry) func264 (by kernel_rfl) (by kernel_rfl) (by kernel_rfl) (by kernel_rfl) [.int .u64 (X:Int),.int .u64 (Y:Int),.int .u64 (C:Int)].toArray w;rw[this,run_sub64 X Y C oo];have e1:(((X+18446744073709551616-Y-C)%18446744073709551616:Nat):Int)=((X:Int)-Y-C)%18446744073709551616:=oo;have e2:((if X<Y+C then 1 else 0:Nat):Int)=if (X:Int)<Y+C then 1 else 0:=by
  split<;>rename_i h
  ·rw[if_pos oo];rfl
  ·rw[if_neg oo];rfl
 rw[e1,e2];rfl⟩
theorem aHw{A B A' B':Int}(h1:A=A')(h2:B=B'):sU [.agg #[.int .i64 A,.int .u64 B]]=Value.agg #[.int .i64 A',.int .u64 B']:=by subst h1 h2;rfl
instance negw_any(z:Int):CV prog 237 [.agg (cA z).toArray] (.agg (cA (-z)).toArray) (-4611686018427387904≤z∧z≤4611686018427387904):=⟨fun hc w=>by refine aJ func237 rfl ntmps237 rfl ⟨aE,.nil⟩ (fun n=>?_);simp only[aG];refine gR;refine bK;refine⟨aHw ?_ oo,rfl⟩;rw[IntKind.wrap_u64,IntKind.wrap_u64,IntKind.wrap_u64,IntKind.wrap_i64];split<;>omega⟩
theorem aI8(a b:Int):bJ a*bJ b=bJ (a*b):=by
 unfold bJ;rcases Int.lt_or_le a 0 with ha|ha<;>rcases Int.lt_or_le b 0 with hb|hb
 ·rw[if_pos ha,if_pos hb,if_neg (by have:=Int.mul_pos_of_neg_of_neg ha hb;omega),Int.neg_mul_neg]
 ·rw[if_pos ha,if_neg oo];rcases Int.lt_or_le 0 b with h0|h0
  ·rw[if_pos (Int.mul_neg_of_neg_of_pos ha h0),Int.neg_mul]
  ·obtain rfl:b=0:=oo;simp
 ·rw[if_pos hb,if_neg oo];rcases Int.lt_or_le 0 a with h0|h0
  ·rw[if_pos (Int.mul_neg_of_pos_of_neg h0 hb),Int.mul_neg]
  ·obtain rfl:a=0:=oo;simp
 ·rw[if_neg oo,if_neg oo,if_neg (by have:=Int.mul_nonneg ha hb;omega)]
theorem aIa(a b:Int)(h:(a<0)=(b<0)∨a*b=0):bJ (a*b)=a*b:=by
 rcases h with h|h
 ·unfold bJ;rcases Int.lt_or_le a 0 with ha|ha
  ·rw[if_neg (by have:=Int.mul_pos_of_neg_of_neg ha (h▸ha);omega)]
  ·have hb:¬b<0:=h▸(by omega:¬a<0);rw[if_neg (by have:=Int.mul_nonneg ha (by omega:0≤b);omega)]
 ·rw[h];rfl
theorem aI9(a b:Int)(h:(a<0)≠(b<0)): - bJ (a*b)=a*b:=by
 unfold bJ;rcases Int.lt_or_le a 0 with ha|ha<;>rcases Int.lt_or_le b 0 with hb|hb
 ·exact absurd (propext ⟨fun _=>hb,fun _=>ha⟩) h
 ·have:=Int.mul_nonpos_of_nonpos_of_nonneg (by omega:a≤0) hb;split<;>omega
 ·have:=Int.mul_nonpos_of_nonneg_of_nonpos ha (by omega:b≤0);split<;>omega
 ·exact absurd (propext ⟨fun _=>by omega,fun _=>by omega⟩) h
instance mulw_any(a b:Int):CV prog 192 [.int .i64 a,.int .i64 b] (.agg (cA (a*b)).toArray) (bG .i64 a∧bG .i64 b∧-4611686018427387904≤a*b∧a*b≤4611686018427387904):=⟨fun hc w=>by
 have h1:=aI8 a b;have h2:0≤bJ (a*b)∧bJ (a*b)≤4611686018427387904:=by unfold bJ;split<;>omega
 have ha:0≤bJ a∧bJ a<18446744073709551616:=by unfold bJ;split<;>omega
 have hb:0≤bJ b∧bJ b<18446744073709551616:=by unfold bJ;split<;>omega
 refine aJ func192 rfl ntmps192 rfl ⟨aE,.nil⟩ (fun n=>?_);simp only[aG];rw[← h1]at h2;refine gR
 ·rename_i h;refine bK;refine⟨?_,rfl⟩;rw[h1,aI9 a b (fun e=>h (by rw[e]))];rfl
 ·rename_i h;refine bK;refine⟨?_,rfl⟩;rw[h1,aIa a b (.inl (propext (Classical.not_not.1 h)))];rfl⟩
def tZ(mode rest by':Int)(minus:Bool):Bool:=decide (rest≠0)&&((decide (mode=0)&&minus)||(decide (mode=1)&&!minus)||(decide (mode=2)&&(decide (by'<2*rest)||(decide (by'=2*rest)&&!minus))))
instance up_any(mode rest by':Int)(minus:Bool):CV prog 260 [.int .i64 mode,.int .u64 rest,.int .u64 by',.bool minus] (.bool (tZ mode rest by' minus)) (0≤rest∧rest<by'∧by'<9223372036854775808):=⟨fun hc w=>by
 refine aJ func260 rfl ntmps260 rfl ⟨aE,.nil⟩ (fun n=>?_);simp only[aG];cases minus;all_goals refine gR
 all_goals first
  | exact aM rfl rfl (.nil _) ⟨congrArg Value.bool (by unfold tZ;simp;omega),rfl⟩
  | fail⟩
theorem aOf{A A':Int}{c:Bool}(h1:A=A')(h2:c=true):sU [.int .i64 A,.bool c]=Value.tuple #[.int .i64 A',.bool true]:=by subst h1 h2;rfl
instance signed_any(m:Int)(minus:Bool):CV prog 261 [.int .u64 m,.bool minus] (.tuple #[.int .i64 (bif minus then -m else m),.bool true]) (0≤m∧m<9223372036854775808):=⟨fun hc w=>by
 refine aJ func261 rfl ntmps261 rfl ⟨aE,.nil⟩ (fun n=>?_);simp only[aG];cases minus;all_goals refine gR
 all_goals refine bK
 ·exact⟨aOf rfl (decide_eq_true oo),rfl⟩
 ·exact⟨aOf (by show IntKind.i64.wrap (IntKind.u64.wrap (0-m)) = -m;rw[IntKind.wrap_u64,IntKind.wrap_i64];omega) (decide_eq_true oo),rfl⟩⟩
instance div64_0(lo y:Int):CV prog 259 [.int .u64 0,.int .u64 lo,.int .u64 y] (.tuple #[.int .u64 (lo/y),.int .u64 (lo%y)]) ((0≤lo∧lo<18446744073709551616)∧0<y∧y<18446744073709551616):=⟨fun hc w=>by refine aJ func259 rfl ntmps259 rfl ⟨aE,.nil⟩ (fun n=>?_);simp only[aG];refine gR;exact cY rfl rfl rfl (.nil _) ⟨rfl,rfl⟩⟩
def cP(z b mode:Int):Int:=bif decide (z<0)then -(bJ z/b+if tZ mode (bJ z%b) b (decide (z<0))then 1 else 0)else bJ z/b+if tZ mode (bJ z%b) b (decide (z<0))then 1 else 0
instance divw_any(z b mode:Int):CV prog 229 [.agg (cA z).toArray,.int .i64 b,.int .i64 mode] (.tuple #[.int .i64 (cP z b mode),.int .i64 0]) ((-4611686018427387904≤z∧z≤4611686018427387904)∧(0<b∧b≤4611686018427387904)∧0≤mode∧mode≤3):=⟨fun hc w=>by
 obtain⟨⟨c1,c2⟩,⟨c3,c4⟩,c5,c6⟩:=hc;have hab:bJ b=b:=by unfold bJ;rw[if_neg oo]
 have hq:0≤bJ z/b∧bJ z/b≤4611686018427387904:=by
  have h0:0≤bJ z∧bJ z≤4611686018427387904:=by unfold bJ;split<;>omega
  exact⟨Int.ediv_nonneg h0.1 oo,Int.le_trans (Int.ediv_le_self _ h0.1) h0.2⟩
 have hr:0≤bJ z%b∧bJ z%b<b:=⟨Int.emod_nonneg _ oo,Int.emod_lt_of_pos _ c3⟩;refine aJ func229 rfl ntmps229 rfl ⟨aE,.nil⟩ (fun n=>?_);simp only[aG];rcases Int.lt_or_le z 0 with hz|hz
 ·have hz1:z/18446744073709551616 = -1:=oo;have ez:bJ z = -z:=by unfold bJ;rw[if_pos hz]
  have e1 : -z/18446744073709551616=0:=oo;have e2 : -z%18446744073709551616 = -z:=oo;unfold cP;rw[ez]at hq hr;rw[decide_eq_true hz,ez];refine aB;refine eY 8 _ rfl (v':=.bool true) (congrArg Value.bool (by rw[decide_eq_true (by omega:z/18446744073709551616<0),decide_eq_false (by omega:¬b<0)];rfl)) ?_;simp only[e1,e2,hab];refine aB;all_goals refine bK
  all_goals first
   | (rw[if_pos oa];exact⟨rfl,rfl⟩)
   | (rw[if_neg oa,Int.add_zero];exact⟨rfl,rfl⟩)
 ·have hz1:z/18446744073709551616=0:=oo;have hz2:z%18446744073709551616=z:=oo;have ez:bJ z=z:=by unfold bJ;rw[if_neg oo]
  unfold cP;simp only[cA];rw[ez]at hq hr;rw[decide_eq_false (by omega:¬z<0),ez];rw[hz1,hz2];refine aB;refine eY 57 _ rfl (v':=.bool false) (congrArg Value.bool (by rw[decide_eq_false (by omega:¬b<0)];rfl)) ?_;refine eY 8 _ rfl (v':=.bool false) (congrArg Value.bool (by rw[decide_eq_false (by omega:¬b<0)];rfl)) ?_;simp only[hab];refine aB;all_goals refine bK
  all_goals first
   | (rw[if_pos oa];exact⟨rfl,rfl⟩)
   | (rw[if_neg oa,Int.add_zero];exact⟨rfl,rfl⟩)⟩
instance muldiv_any(a b c mode:Int):CV prog 185 [.int .i64 a,.int .i64 b,.int .i64 c,.int .i64 mode] (.tuple #[.int .i64 (cP (a*b) c mode),.int .i64 0]) ((bG .i64 a∧bG .i64 b∧-4611686018427387904≤a*b∧a*b≤4611686018427387904)∧(0<c∧c≤4611686018427387904)∧0≤mode∧mode≤3):=⟨fun hc w=>by obtain⟨⟨c1,c2,c3,c4⟩,c5,c6⟩:=hc;refine aJ func185 rfl ntmps185 rfl ⟨aE,.nil⟩ (fun n=>?_);simp only[aG];refine aB;refine bK;exact⟨rfl,rfl⟩⟩
theorem aAi{z b:Int}(hb:0<b):cP z b 0=z/b:=by
 have h1:=Int.mul_ediv_add_emod (bJ z) b;have h2:=Int.emod_nonneg (bJ z) (by omega:b≠0);have h3:=Int.emod_lt_of_pos (bJ z) hb;unfold cP tZ;generalize bJ z/b=q at *;generalize bJ z%b=r at *;rcases Int.lt_or_le z 0 with hz|hz
 ·have ez:bJ z = -z:=by unfold bJ;rw[if_pos hz]
  rw[ez]at h1;rw[decide_eq_true hz];rcases Int.lt_or_le 0 r with hr|hr
  ·simp only[show decide (r≠0)=true from decide_eq_true oo];simp only[decide_true,Bool.and_self,Bool.true_or,Bool.and_true,if_true,cond_true];refine((Int.ediv_emod_unique (r:=b-r) (q:=-(q+1)) hb).2 ⟨?_,oo,oo⟩).1.symm;rw[Int.mul_neg,Int.mul_add,Int.mul_one];omega
  ·obtain rfl:r=0:=oo;simp only[ne_eq,not_true_eq_false,decide_false,Bool.false_and,cond_true,Bool.false_eq_true,if_false,Int.add_zero];refine((Int.ediv_emod_unique (r:=0) (q:=-q) hb).2 ⟨?_,oo,oo⟩).1.symm;rw[Int.mul_neg];omega
 ·have ez:bJ z=z:=by unfold bJ;rw[if_neg oo]
  rw[ez]at h1;rw[decide_eq_false (by omega:¬z<0)];simp only[Bool.and_false,Bool.or_false,Bool.false_or,Bool.not_false,Bool.and_true,cond_false,show decide ((0:Int)=1)=false from rfl,show decide ((0:Int)=2)=false from rfl,Bool.false_and,Bool.false_eq_true,if_false,Int.add_zero];exact((Int.ediv_emod_unique (r:=r) (q:=q) hb).2 ⟨oo,oo,oo⟩).1.symm
theorem yY{z b:Int}(hb:0<b):cP z b 2=(2*z+b)/(2*b):=by
 have h1:=Int.mul_ediv_add_emod (bJ z) b;have h2:=Int.emod_nonneg (bJ z) (by omega:b≠0);have h3:=Int.emod_lt_of_pos (bJ z) hb;unfold cP tZ;generalize bJ z/b=q at *;generalize bJ z%b=r at *;have key:∀x s:Int,2*z+b=2*(b*x)+s→0≤s→s<2*b→x=(2*z+b)/(2*b):=fun x s e h4 h5 =>
  ((Int.ediv_emod_unique (r:=s) (q:=x) (by omega:0<2*b)).2 ⟨by rw[Int.mul_assoc];omega,h4,h5⟩).1.symm
 rcases Int.lt_or_le z 0 with hz|hz
 ·have ez:bJ z = -z:=by unfold bJ;rw[if_pos hz]
  rw[ez]at h1;rw[decide_eq_true hz];simp only[cond_true,Bool.not_true,Bool.and_false,Bool.or_false,show decide ((2:Int)=0)=false from rfl,show decide ((2:Int)=1)=false from rfl,show decide ((2:Int)=2)=true from rfl,Bool.false_and,Bool.false_or,Bool.true_and];rcases Int.lt_or_le b (2*r) with hr|hr
  ·rw[decide_eq_true hr,decide_eq_true (by omega:r≠0)];rw[show (true&&(decide True&&true))=true from rfl,if_pos rfl];exact key _ (3*b-2*r) (by rw[Int.mul_neg,Int.mul_add,Int.mul_one];omega) oo oo
  ·rw[decide_eq_false (by omega:¬b<2*r)];simp only[Bool.and_false,Bool.false_eq_true,if_false,Int.add_zero];exact key _ (b-2*r) (by rw[Int.mul_neg];omega) oo oo
 ·have ez:bJ z=z:=by unfold bJ;rw[if_neg oo]
  rw[ez]at h1;rw[decide_eq_false (by omega:¬z<0)];simp only[cond_false,Bool.not_false,Bool.and_true,show decide ((2:Int)=0)=false from rfl,show decide ((2:Int)=1)=false from rfl,show decide ((2:Int)=2)=true from rfl,Bool.false_and,Bool.false_or,Bool.true_and];rcases Int.lt_or_le (2*r) b with hr|hr
  ·rw[decide_eq_false (by omega:¬b<2*r),decide_eq_false (by omega:¬b=2*r)];simp only[Bool.or_self,Bool.and_false,Bool.false_eq_true,if_false,Int.add_zero];exact key _ (b+2*r) oo oo oo
  ·have e:(decide (b<2*r)||decide (b=2*r))=true:=by rw[Bool.or_eq_true,decide_eq_true_eq,decide_eq_true_eq];omega
   rw[e,decide_eq_true (by omega:r≠0)];rw[show (true&&(decide True&&true))=true from rfl,if_pos rfl];exact key _ (2*r-b) (by rw[Int.mul_add,Int.mul_one];omega) oo oo
end Go.Proofs.YtbhchphfmhmabaaGreat
namespace Go.Proofs.YtbhchphfmhmabaaGreat
open Go.RowKit _root_.Go.Proofs.Tryz
def gB:Nat→Nat
 | 0=>0
 | x+1=>if (gB x+1)*(gB x+1)≤x+1 then gB x+1 else gB x
theorem aCp:∀x,gB x*gB x≤x∧x<(gB x+1)*(gB x+1)
 | 0=>by simp[gB]
 | x+1=>by
  obtain⟨h1,h2⟩:=aCp x;rw[gB];generalize gB x=r at *;have e1:(r+1)*(r+1)=r*r+2*r+1:=by rw[Nat.add_mul,Nat.mul_add];omega
  have e2:(r+1+1)*(r+1+1)=r*r+4*r+4:=by rw[Nat.add_mul,Nat.mul_add,Nat.add_mul,Nat.mul_add];omega
  split
  ·exact⟨oa,oo⟩
  ·exact⟨oo,oo⟩
theorem aKq{x r:Nat}(h1:r*r≤x)(h2:x<(r+1)*(r+1)):gB x=r:=by
 obtain⟨g1,g2⟩:=aCp x;rcases Nat.lt_trichotomy (gB x) r with h|h|h
 ·have:=Nat.mul_le_mul h h;rw[Nat.succ_eq_add_one]at this;omega
 ·exact h
 ·have:=Nat.mul_le_mul h h;rw[Nat.succ_eq_add_one]at this;omega
theorem wI{F:Fence}{n:Nat}{P:Program}{N:Nat}{ds:List Deferred}{w0:World}{W:Nat→Prop}{σ:List (Nat×Value)}{H:List HE}{Q:Exit→Act→World→Prop}{ops:Array Oper}{rest:List Oper}{d:Nat}{ty:TypeId}{pos:String}{aft:Array Edge}{gd:Option (Nat×Bool)}[aU F]{x y:Operand}{t:TypeId}{s:ByteArray}{k:IntKind}{i:Nat}[hu:aN P t .string]
  (hw:bT ops σ ⟨some d,.index t x y,ty,pos,aft,gd⟩=some true) (hx:ev σ x=some (.string s)) (hy:ev σ y=some (.int k (i:Int))) (hs:Nat.ble 256 s.size=true) (hi:i<256) (hT:∀i:Fin 256,(i:Nat)<2^(s.data.getD i 0).toNat∧(s.data.getD i 0).toNat≤8) (hdN:Nat.blt d N=true)
  (h:∀t:Nat,i<2^t→t≤8→J N ds w0 W ((d,.int .u8 (t:Nat))::σ) H (wpListIn F n P ops Q rest)):J N ds w0 W σ H (wpListIn F n P ops Q (⟨some d,.index t x y,ty,pos,aft,gd⟩::rest)) :=
 jZ hw (dW aE rfl hdN (fun a w ha _=>by
  have hc:i<s.size:=Nat.lt_of_lt_of_le hi (Nat.le_of_ble_eq_true hs);have e:s[i]? = some (s.data.getD i 0):=by
   have h1:s[i]? = some s[i]:=by simp[getElem?_pos,hc]
   have hc':i<s.data.size:=hc;rw[h1];congr 1;show s.data[i]=_;rw[Array.getD_eq_getD_getElem?,Array.getElem?_eq_getElem hc'];rfl
  simp[execOp,ha.eval hx,ha.eval hy,Instr.index,run_underlying hu.h,asIntOf,e]) (h _ (hT ⟨i,hi⟩).1 (hT ⟨i,hi⟩).2))
attribute [local irreducible] OJ J bM Code.wpIn wpListIn Oper.wpIn bodyPost CallsIn aF
theorem uY{x v b t:Nat}{n:Int}(h1:v<2^t)(h2:t≤8)(hn:n=(b:Int)+(t:Nat))(e:v=x/2^b)(hb:b≤56):0≤n∧n≤64∧x<2^n.toNat:=by have en:n.toNat=b+t:=oo;refine⟨oo,oo,?_⟩;rw[en,Nat.pow_add,Nat.mul_comm];rw[e]at h1;exact(Nat.div_lt_iff_lt_mul (Nat.two_pow_pos b)).1 h1
theorem aVl(x:Nat)(w:World)(hx:x<18446744073709551616):aF prog 274 [.int .u64 x] [] w (fun v S'=>∃n:Int,v=.int .i64 n∧(0≤n∧n≤64∧x<2^n.toNat)∧S'=[]):=by
 refine aJ func274 rfl ntmps274 rfl ⟨aE,.nil⟩ (fun n=>?_);simp only[aG];refine aB;all_goals first
  | (refine eY 21 _ rfl (v':=.int .u8 ((x/4294967296/65536/256:Nat):Int)) (congrArg (Value.int .u8) oo) ?_;refine aB;refine wI rfl rfl rfl bD oo bD rfl fun t h1 h2=>?_;refine aB;refine aM rfl rfl (.nil _) ?_;refine⟨_,rfl,?_,rfl⟩;exact uY (b:=56) h1 h2 oo oo oo)
  | (refine eY 21 _ rfl (v':=.int .u8 ((x/4294967296/65536:Nat):Int)) (congrArg (Value.int .u8) oo) ?_;refine aB;refine wI rfl rfl rfl bD oo bD rfl fun t h1 h2=>?_;refine aB;refine aM rfl rfl (.nil _) ?_;refine⟨_,rfl,?_,rfl⟩;exact uY (b:=48) h1 h2 oo oo oo)
  | (refine eY 21 _ rfl (v':=.int .u8 ((x/4294967296/256:Nat):Int)) (congrArg (Value.int .u8) oo) ?_;refine aB;refine wI rfl rfl rfl bD oo bD rfl fun t h1 h2=>?_;refine aB;refine aM rfl rfl (.nil _) ?_;refine⟨_,rfl,?_,rfl⟩;exact uY (b:=40) h1 h2 oo oo oo)
  | (refine eY 21 _ rfl (v':=.int .u8 ((x/4294967296:Nat):Int)) (congrArg (Value.int .u8) oo) ?_;refine aB;refine wI rfl rfl rfl bD oo bD rfl fun t h1 h2=>?_;refine aB;refine aM rfl rfl (.nil _) ?_;refine⟨_,rfl,?_,rfl⟩;exact uY (b:=32) h1 h2 oo oo oo)
  | (refine eY 21 _ rfl (v':=.int .u8 ((x/65536/256:Nat):Int)) (congrArg (Value.int .u8) oo) ?_;refine aB;refine wI rfl rfl rfl bD oo bD rfl fun t h1 h2=>?_;refine aB;refine aM rfl rfl (.nil _) ?_;refine⟨_,rfl,?_,rfl⟩;exact uY (b:=24) h1 h2 oo oo oo)
  | (refine eY 21 _ rfl (v':=.int .u8 ((x/65536:Nat):Int)) (congrArg (Value.int .u8) oo) ?_;refine aB;refine wI rfl rfl rfl bD oo bD rfl fun t h1 h2=>?_;refine aB;refine aM rfl rfl (.nil _) ?_;refine⟨_,rfl,?_,rfl⟩;exact uY (b:=16) h1 h2 oo oo oo)
  | (refine eY 21 _ rfl (v':=.int .u8 ((x/256:Nat):Int)) (congrArg (Value.int .u8) oo) ?_;refine aB;refine wI rfl rfl rfl bD oo bD rfl fun t h1 h2=>?_;refine aB;refine aM rfl rfl (.nil _) ?_;refine⟨_,rfl,?_,rfl⟩;exact uY (b:=8) h1 h2 oo oo oo)
  | (refine eY 21 _ rfl (v':=.int .u8 ((x:Nat):Int)) (congrArg (Value.int .u8) oo) ?_;refine aB;refine wI rfl rfl rfl bD oo bD rfl fun t h1 h2=>?_;refine aB;refine aM rfl rfl (.nil _) ?_;refine⟨_,rfl,?_,rfl⟩;exact uY (b:=0) h1 h2 oo oo oo)
  | (exfalso;omega)
theorem aXe{r q:Nat}(hq:q≤62)(hr:r<4294967296)(hm:r%2^(q+1)=0):bits .or .u64 (r:Int) (IntKind.u64.wrap (1*2^(min (q:Int).toNat IntKind.u64.bits)))=((r+2^q:Nat):Int):=by
 have hp:2^q<9223372036854775808:=Nat.lt_of_lt_of_le (Nat.pow_lt_pow_right od (by omega:q<63)) (Nat.le_refl _);have e1:IntKind.u64.wrap (1*2^(min (q:Int).toNat IntKind.u64.bits))=((2^q:Nat):Int):=by
  rw[Int.toNat_natCast,Nat.min_eq_left (show q≤IntKind.u64.bits from (by omega:q≤64)),Int.one_mul,IntKind.wrap_u64];have e:((2:Int)^q)=((2^q:Nat):Int):=by rw[Int.natCast_pow];rfl
  rw[e];generalize 2^q=p at *;omega
 rw[e1,bits_or_u64_nat _ _ oo oo];congr 1;have h2:=Nat.two_pow_add_eq_or_of_lt (i:=q+1) (b:=2^q) (by rw[Nat.pow_succ];have:=Nat.two_pow_pos q;omega) (r/2^(q+1));rw[show 2^(q+1)*(r/2^(q+1))=r by have:=Nat.div_add_mod r (2^(q+1));omega]at h2;exact h2.symm
theorem aK3(x:Nat)(w:World)(hx:x<18446744073709551616):aF prog 231 [.int .u64 x] [] w (fun v S'=>v=.int .u64 (gB x:Nat)∧S'=[]):=by
 refine aJ func231 rfl ntmps231 rfl ⟨aE,.nil⟩ (fun n=>?_);simp only[aG];refine aB;refine lf rfl rfl rfl (S:=[]) (fun w _ ho=>(show aF prog 263 [.int .u64 x] [] w (fun v S'=>∃n:Int,v=.int .i64 n∧(0≤n∧n≤64∧x<2^n.toNat)∧S'=[]) by refine aJ func263 rfl ntmps263 rfl ⟨aE,.nil⟩ (fun n=>?_);simp only[aG];refine aB;refine lf rfl rfl rfl (S:=[]) (fun w _ ho=>aVl x w hx) ?_;rintro v S' ⟨m,rfl,h1,rfl⟩;refine aB;exact aM rfl rfl (.nil _) ⟨m,rfl,h1,rfl⟩)) ?_;rintro v S' ⟨m,rfl,⟨m1,m2,m3⟩,rfl⟩;obtain⟨k,rfl⟩:∃k:Nat,m=k:=⟨m.toNat,oo⟩;rw[Int.toNat_natCast]at m3;refine aB;have h0:x<(0+2^((k+1)/2+1))*(0+2^((k+1)/2+1)):=by rw[Nat.zero_add,← Nat.pow_add];exact Nat.lt_of_lt_of_le m3 (Nat.pow_le_pow_right od oo)
 refine cG (X:=Nat×Nat) (fun q=>q.1≤33∧q.2*q.2≤x∧x<(q.2+2^q.1)*(q.2+2^q.1)∧q.2%2^q.1=0∧q.2<4294967296) (fun q=>[(0,.int .u64 x),(3,.int .u64 q.2),(4,.int .i64 ((q.1:Int)-1))]) (fun _=>[]) (fun q=>q.1) ((k+1)/2+1,0) ⟨by show (k+1)/2+1≤33;omega,Nat.zero_le _,h0,Nat.zero_mod _,(by decide:(0:Nat)<4294967296)⟩ ⟨rfl,rfl,by simp[aI],trivial⟩ (.nil _) ?_;rintro⟨p,r⟩ ⟨hp,h1,h2,h3,h4⟩;dsimp only at hp h1 h2 h3 h4 ⊢;cases p with
 | zero =>
  have e:gB x=r:=aKq h1 (by simpa using h2);rw[e];refine aB;exact aM rfl rfl (.nil _) ⟨rfl,rfl⟩
 | succ q =>
  have hor:=aXe (r:=r) (q:=q) oo h4 h3;have hq1:((q+1:Nat):Int)-1=q:=oo;rw[hq1];have io:∀(w0:World) (W:Nat→Prop) (H:List HE) (t u:TypeId) (a b:Operand),MS prog w0 W H (.binOp .or t a b u) [.int .u64 (r:Int),.int .u64 (IntKind.u64.wrap (1*2^(min (q:Int).toNat IntKind.u64.bits)))] (.int .u64 ((r+2^q:Nat):Int)) True:=fun w0 W H t u a b=>by have h:=(inferInstance:MS prog w0 W H (.binOp .or t a b u) [.int .u64 (r:Int),.int .u64 (IntKind.u64.wrap (1*2^(min (q:Int).toNat IntKind.u64.bits)))] (.int .u64 (bits .or .u64 (r:Int) (IntKind.u64.wrap (1*2^(min (q:Int).toNat IntKind.u64.bits))))) True);rw[hor]at h;exact h
  have e2:2^(q+1)=2^q+2^q:=by rw[Nat.pow_succ];omega
  have hrm:r%2^q=0:=by have:=Nat.mod_mod_of_dvd r (show 2^q ∣ 2^(q+1)from ⟨2,by rw[Nat.pow_succ]⟩);rw[h3,Nat.zero_mod]at this;exact this.symm
  have hn2:(r+2^q)%2^q=0:=by rw[Nat.add_mod_right];exact hrm
  have hsq:r+2^q<4294967296→(r+2^q)*(r+2^q)<18446744073709551616:=fun h=>Nat.lt_of_le_of_lt (Nat.mul_le_mul (by omega:r+2^q≤4294967295) (by omega:r+2^q≤4294967295)) od;have hbig:4294967296≤r+2^q→18446744073709551616≤(r+2^q)*(r+2^q):=fun h=>Nat.mul_le_mul h h;have hpq:2^q≤8589934592:=Nat.le_trans (Nat.pow_le_pow_right od (by omega:q≤33)) od;rw[e2,← Nat.add_assoc]at h2;generalize hnx:r+2^q=nx at *;have hc:((nx:Int)*(nx:Int))=((nx*nx:Nat):Int):=by push_cast;rfl
  generalize hN:nx*nx=N2 at *;clear hpq hor h3 e2 hq1;rcases Nat.lt_or_ge nx 4294967296 with hnn|hnn
  case' inl =>
   have hs1:=hsq hnn;have il:∀(w0:World) (W:Nat→Prop) (H:List HE) (t u:TypeId) (a b:Operand),MS prog w0 W H (.binOp .lss t a b u) [.int .u64 (nx:Int),.int .u64 4294967296] (.bool true) True:=fun w0 W H t u a b=>by have h:=(inferInstance:MS prog w0 W H (.binOp .lss t a b u) [.int .u64 (nx:Int),.int .u64 4294967296] (.bool (decide ((nx:Int)<4294967296))) True);rw[decide_eq_true oo]at h;exact h
  case' inr =>
   have hs1:=hbig hnn;have il:∀(w0:World) (W:Nat→Prop) (H:List HE) (t u:TypeId) (a b:Operand),MS prog w0 W H (.binOp .lss t a b u) [.int .u64 (nx:Int),.int .u64 4294967296] (.bool false) True:=fun w0 W H t u a b=>by have h:=(inferInstance:MS prog w0 W H (.binOp .lss t a b u) [.int .u64 (nx:Int),.int .u64 4294967296] (.bool (decide ((nx:Int)<4294967296))) True);rw[decide_eq_false oo]at h;exact h
  all_goals clear hsq hbig
  all_goals refine aB
  all_goals first
   | exact aR (q,nx) ⟨by show q≤33;omega,by show nx*nx≤x;omega,by show x<(nx+2^q)*(nx+2^q);exact h2,hn2,by show nx<4294967296;omega⟩ (by show q<q+1;omega) ⟨rfl,rfl,by simp[aI],trivial⟩ (.nil _)
   | exact aR (q,r) ⟨by show q≤33;omega,h1,by show x<(r+2^q)*(r+2^q);rw[hnx,hN];omega,hrm,h4⟩ (by show q<q+1;omega) ⟨rfl,rfl,by simp[aI],trivial⟩ (.nil _)
   | trace_state
