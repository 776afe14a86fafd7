import Derived.Test.YtpmkboockihdbaaGreatP53
set_option maxHeartbeats 512000000
set_option maxRecDepth 4000
set_option linter.unusedVariables false
set_option linter.unusedSimpArgs false
namespace Go.Proofs.YtpmkboockihdbaaGreat
open Go.RowKit
theorem aF.calls{P:Program}{f:FuncId}{args:List Value}{S:List HE}{w:World}{Rl:Value→List HE→Prop}(h:aF P f args S w Rl):Calls P f args.toArray w (oN S w Rl):=callsIn_wide.1 (h 0)
section
variable {F:Fence} {n:Nat} {P:Program} {N:Nat} {ds:List Deferred} {w0:World} {W:Nat→Prop} {σ:List (Nat×Value)} {H R:List HE} {Q:Exit→Act→World→Prop} {K:Act→World→Prop}
variable {d:Nat} {ty:TypeId} {pos:String} {aft:Array Edge} {gd:Option (Nat×Bool)} {o:Oper}
class Ff(P:Program)(s f:Nat)(off fty:outParam Nat):Prop where h:∃fs fld,P.underlying s=some (.struct fs)∧fs[f]? = some fld∧fld.type=fty∧fld.offset=off
theorem bFo[aX F]{s f off fty:Nat}{dd:TypeDesc}{x:Operand}{cs:Array Value}{v:Value}[hf:Ff P s f off fty][aO P fty dd](hx:ev σ x=some (.agg cs))(ha:oP dd=false)(hc:cs[off]? = some v)(hdN:Nat.blt d N=true)
  (h:J N ds w0 W ((d,v)::σ) H K):OJ F n P N ds w0 W σ H ⟨some d,.field s x f,ty,pos,aft,gd⟩ K Q :=
 dS aE rfl hdN (fun a w ha' _=>by
  obtain⟨fs,fld,h1,h2,h3,h4⟩:=hf.h;have hu:=aO.h (P:=P) (t:=fty);have hagg:(isAgg fld.type).run P w=.ok false w:=by unfold isAgg;rw[h3,Sem.run_bind,run_underlying hu w];cases dd<;>simp[oP]at ha<;>rfl
  simp[execOp,ha'.eval hx,Instr.field,run_underlying h1,h2,asAgg,part,hagg,h4,hc]) h
end
instance (priority:=50) (xs:List Value)(q:Nat)(v:Value)[h:cZ xs q v]:rM xs q v True:=⟨fun _=>h.h⟩
section
variable (P:Program) (w0:World) (W:Nat→Prop) (H:List HE)
end
theorem bFn(a b:Nat):quN a b≤a:=Nat.div_le_self _ _
section
variable {P:Program} {w0:World} {W:Nat→Prop} {H:List HE}
instance (t u:TypeId)(x y:Operand)(k:IntKind)(a b:Int):MW P w0 W H (.binOp .rem t x y u) [.int k a,.int k b] (.int k (a.tmod b)) (b≠0):=⟨fun hc _ _ _ _ _ _ _ _ _ _ _ _ _ h1 h2 h3=>let ⟨p,q⟩:=dH h1;aNq p q hc h2 h3⟩
instance (s f off fty:Nat)(dd:TypeDesc)(x:Operand)(cs:List Value)(v:Value)[Ff P s f off fty][aO P fty dd][hd:qN dd][hg:cZ cs off v]:MS P w0 W H (.field s x f) [.agg cs.toArray] v True :=
 ⟨fun _ _ _ _ _ _ _ _ _ _ _ _ _ _ h1 h2 h3=>bFo (off:=off) (kW rfl h1) hd.h (by simpa using hg.h) h2 h3⟩
end
section
variable {F:Fence} {n:Nat} {P:Program} {Q:Exit→Act→World→Prop} {k:Act→World→Prop}
end
section
variable {F:Fence} {n:Nat} {P:Program} {N:Nat} {ds:List Deferred} {w0:World} {W:Nat→Prop} {σ:List (Nat×Value)} {H:List HE} {Q:Exit→Act→World→Prop} {k k':Act→World→Prop}
variable {ops:Array Oper} {rest:List Oper} {d:Nat} {op:Op} {ty:TypeId} {pos:String} {aft:Array Edge} {gd:Option (Nat×Bool)} {vs:List Value} {v:Value} {c:Prop} {H':List HE}
end
section
variable {F:Fence} {n:Nat} {P:Program} {N:Nat} {ds:List Deferred} {w0:World} {W:Nat→Prop} {σ:List (Nat×Value)} {H:List HE} {Q:Exit→Act→World→Prop} {k k':Act→World→Prop}
variable {ops:Array Oper} {rest:List Oper} {d:Nat} {op:Op} {ty:TypeId} {pos:String} {aft:Array Edge} {gd:Option (Nat×Bool)} {vs:List Value} {v:Value} {c:Prop} {H':List HE}
end
section
variable {P:Program}
instance (t u:TypeId)(x y:Operand)(k:IntKind)(a b:Int):PV P (.binOp .leq t x y u) [.int k a,.int k b] (.bool (decide (a≤b))) True:=⟨fun _=>yY rfl⟩
end
end Go.Proofs.YtpmkboockihdbaaGreat
namespace Go.Proofs.YtpmkboockihdbaaGreat
open Go _root_.Go.Proofs.Tryz
instance:aO prog 23 (.slice 32):=⟨underlying23⟩
instance:aO prog 345 (.array 129 3):=⟨underlying345⟩
instance:gY (Tryz.t346.desc):=⟨by kernel_rfl⟩
instance:aO prog 347 (Tryz.t346.desc):=⟨underlying347⟩
instance:Pl prog 25 [(0,1),(1,1),(2,1)]:=⟨_,underlying25,fun w=>by kernel_rfl⟩
instance:Pl prog 48 [(0,1),(1,1),(2,1),(3,1)]:=⟨_,underlying48,fun w=>by kernel_rfl⟩
instance:Pl prog 50 [(0,1),(1,1),(2,1),(3,1),(4,1),(5,1)]:=⟨_,underlying50,fun w=>by kernel_rfl⟩
instance:Pl prog 52 [(0,4),(4,6),(10,3),(13,1),(14,1),(15,1),(16,1),(17,1),(18,1),(19,1),(20,1),(21,1),(22,1)]:=⟨_,underlying52,fun w=>by kernel_rfl⟩
instance:Ff prog 124 0 0 2:=⟨_,_,underlying124,rfl,rfl,rfl⟩
instance:Pl prog 347 [(0,1),(1,129)]:=⟨_,underlying347,fun w=>by kernel_rfl⟩
instance:Fa prog 347 0 0:=aW Tryz.t4 underlying347 rfl
instance:Fa prog 347 1 1:=aW Tryz.t345 underlying347 rfl
instance:Cl prog 10:=⟨call10⟩
instance:Cl prog 11:=⟨call11⟩
instance:Cl prog 12:=⟨call12⟩
instance:Cl prog 13:=⟨call13⟩
instance:Cl prog 15:=⟨call15⟩
instance:Cl prog 18:=⟨call18⟩
instance:Cl prog 20:=⟨call20⟩
instance:Cl prog 21:=⟨call21⟩
instance:Cl prog 24:=⟨call24⟩
instance:Cl prog 25:=⟨call25⟩
instance:Cl prog 32:=⟨call32⟩
instance:Cl prog 40:=⟨call40⟩
instance:Cl prog 43:=⟨call43⟩
instance:Cl prog 44:=⟨call44⟩
instance:Cl prog 49:=⟨call49⟩
instance:Cl prog 50:=⟨call50⟩
instance:Cl prog 54:=⟨call54⟩
instance:Cl prog 55:=⟨call55⟩
instance:Cl prog 60:=⟨call60⟩
instance:Cl prog 61:=⟨call61⟩
instance:Cl prog 62:=⟨call62⟩
instance:Cl prog 63:=⟨call63⟩
instance:Cl prog 64:=⟨call64⟩
instance:Cl prog 65:=⟨call65⟩
instance:Cl prog 90:=⟨call90⟩
instance:Cl prog 110:=⟨call110⟩
instance:Cl prog 121:=⟨call121⟩
instance:Cl prog 122:=⟨call122⟩
instance:Cl prog 123:=⟨call123⟩
instance:Cl prog 124:=⟨call124⟩
instance:Cl prog 125:=⟨call125⟩
instance:Cl prog 126:=⟨call126⟩
instance:Cl prog 127:=⟨call127⟩
instance:Cl prog 128:=⟨call128⟩
instance:Cl prog 170:=⟨call170⟩
instance:Cl prog 171:=⟨call171⟩
instance:Cl prog 172:=⟨call172⟩
instance:Cl prog 173:=⟨call173⟩
instance:Cl prog 174:=⟨call174⟩
instance:Cl prog 220:=⟨call220⟩
instance:Cl prog 221:=⟨call221⟩
instance:Cl prog 222:=⟨call222⟩
instance:Cl prog 223:=⟨call223⟩
instance:Cl prog 224:=⟨call224⟩
instance:Cl prog 260:=⟨call260⟩
instance:Cl prog 261:=⟨call261⟩
instance:Cl prog 262:=⟨call262⟩
instance:Cl prog 263:=⟨call263⟩
instance:Cl prog 264:=⟨call264⟩
instance:Cl prog 266:=⟨call266⟩
instance:bW Tryz.f13 [Go.ResultVar.cell 8 37]:=⟨rfl⟩
instance:bW Tryz.f49 [Go.ResultVar.cell 8 52]:=⟨rfl⟩
instance:bW Tryz.f50 [Go.ResultVar.cell 2 124]:=⟨rfl⟩
instance:bW Tryz.f55 [Go.ResultVar.cell 2 37,Go.ResultVar.tmp 3]:=⟨rfl⟩
instance:bW Tryz.f60 [Go.ResultVar.cell 2 44,Go.ResultVar.tmp 3]:=⟨rfl⟩
instance:bW Tryz.f64 [Go.ResultVar.cell 4 25]:=⟨rfl⟩
instance:bW Tryz.f65 [Go.ResultVar.tmp 4]:=⟨rfl⟩
instance:bW Tryz.f110 [Go.ResultVar.cell 4 37]:=⟨rfl⟩
instance:bW Tryz.f126 [Go.ResultVar.tmp 2]:=⟨rfl⟩
instance:bW Tryz.f128 [Go.ResultVar.tmp 4]:=⟨rfl⟩
instance:bW Tryz.f221 [Go.ResultVar.cell 4 347]:=⟨rfl⟩
instance:bW Tryz.f223 [Go.ResultVar.cell 4 347,Go.ResultVar.tmp 5]:=⟨rfl⟩
instance:bW Tryz.f260 [Go.ResultVar.cell 2 347]:=⟨rfl⟩
instance:bW Tryz.f261 [Go.ResultVar.cell 4 345]:=⟨rfl⟩
instance:bW Tryz.f262 [Go.ResultVar.cell 2 345]:=⟨rfl⟩
end Go.Proofs.YtpmkboockihdbaaGreat
namespace Go.Proofs.YtpmkboockihdbaaGreat
open Go.RowKit _root_.Go.Proofs.Tryz
section
variable {P:Program} {w0:World} {W:Nat→Prop} {H:List HE}
theorem bDx{t e:TypeId}[h:aO P t (.pointer e)]:P.underlying t=some (.pointer (P.pointee t)):=by have:=h.h;rw[this,Program.pointee,this]
instance (t u e:TypeId)(x y:Operand)(p:Addr)[aO P t (.pointer e)]:MS P w0 W H (.binOp .eql t x y u) [.pointer (some p),.pointer none] (.bool false) True :=
 ⟨fun _ _ _ _ _ _ _ _ _ _ _ _ _ _ h1 h2 h3=>dS aE rfl h2 (fun a w ha hw=>by obtain⟨p,q⟩:=dH h1;simp[execOp,ha.eval p,ha.eval q,eqGuard,run_eql_pointer_nil w t _ (bDx (t:=t) (e:=e))]) h3⟩
instance (t u e:TypeId)(x y:Operand)(p:Addr)[aO P t (.pointer e)]:MS P w0 W H (.binOp .neq t x y u) [.pointer (some p),.pointer none] (.bool true) True :=
 ⟨fun _ _ _ _ _ _ _ _ _ _ _ _ _ _ h1 h2 h3=>dS aE rfl h2 (fun a w ha hw=>by obtain⟨p,q⟩:=dH h1;simp[execOp,ha.eval p,ha.eval q,eqGuard,run_neq_pointer_nil w t _ (bDx (t:=t) (e:=e))]) h3⟩
end
section
variable {F:Fence} {n:Nat} {P:Program} {N:Nat} {ds:List Deferred} {w0:World} {W:Nat→Prop} {σ:List (Nat×Value)} {H:List HE} {Q:Exit→Act→World→Prop}
variable {ops:Array Oper} {rest:List Oper} {d:Nat} {ty:TypeId} {pos:String} {aft:Array Edge} {gd:Option (Nat×Bool)} {v:Value}
variable {dst:Nat} {f:FuncId} {args:Array Operand} {ts:Array TypeId} {us:List Value} {S R:List HE} {Rl:Value→List HE→Prop}
end
theorem yH.one{ys:List Int}{i:Nat}{a b:Int}(h:yH ys i a)(g:yH ys i b):a=b:=by rcases h with⟨rfl,h1⟩ | ⟨h1,⟨rfl,h2⟩ | ⟨rfl,h2⟩⟩<;>rcases g with⟨rfl,g1⟩ | ⟨g1,⟨rfl,g2⟩ | ⟨rfl,g2⟩⟩<;>first|rfl|contradiction
theorem pI.one{ys:List Int}{a b:Int}(h:pI ys a)(g:pI ys b):a=b:=by
 rcases h with⟨h1,h2⟩ | ⟨h1,i,hi,h2,h3,h4⟩ | ⟨h1,h2,h3⟩<;>rcases g with⟨g1,g2⟩ | ⟨g1,k,hk,g2,g3,g4⟩ | ⟨g1,g2,g3⟩
 ·rw[← h2,g2]
 ·omega
 ·omega
 ·omega
 ·have e:i=k:=by
   rcases Nat.lt_trichotomy i k with e|e|e
   ·obtain⟨z,hz⟩:=g4 i e;exact absurd hz (h3 z)
   ·exact e
   ·obtain⟨z,hz⟩:=h4 k e;exact absurd hz (g3 z)
  subst e;exact h2.one g2
 ·obtain⟨z,hz⟩:=g3 i hi;exact absurd hz (h3 z)
 ·omega
 ·obtain⟨z,hz⟩:=h3 k hk;exact absurd hz (g3 z)
 ·rw[h2,g2]
section
variable {N:Nat} {ds:List Deferred} {w0:World} {W:Nat→Prop} {σ:List (Nat×Value)} {H R:List HE} {q:Act→World→Prop}
end
attribute [local irreducible] OJ J bO Code.wpIn wpListIn Oper.wpIn bodyPost CallsIn aF
theorem bE0(W H:Nat)(A:Option Addr)(c:Nat)(z:List Int)(x y:Int)(w:World)(hr:bF w (aV []) A z.length c 1 (aC .i16 z))(hW:1≤W∧W≤256∧1≤H∧H≤256)(hz:z.length=W*H):
  aF prog 125 [.agg #[.int .i64 W,.int .i64 H,.slice A z.length c],.int .i64 x,.int .i64 y] [] w (fun v S'=>v=.tuple #[.int .i16 (jP W H z x y).1,.int .i64 (jP W H z x y).2]∧S'=[]):=by
 refine aJ func125 rfl ntmps125 rfl ⟨aE,.nil⟩ (fun n=>?_);simp only[aG];by_cases ho:x<0∨y<0∨(W:Int)≤x∨(H:Int)≤y
 ·have e:jP W H z x y=(0,9):=if_pos ho;rw[e];refine aB;all_goals first
   | exact cM rfl rfl rfl (.nil _) ⟨rfl,rfl⟩
   | (exfalso;omega)
 obtain⟨X,rfl⟩:∃X:Nat,x=X:=⟨x.toNat,oo⟩;obtain⟨Y,rfl⟩:∃Y:Nat,y=Y:=⟨y.toNat,oo⟩;have h1:(Y+1)*W≤H*W:=Nat.mul_le_mul_right _ oo;rw[Nat.add_mul,Nat.one_mul,Nat.mul_comm H,← hz]at h1;have h2:z.length≤65536:=by rw[hz];have:=Nat.mul_le_mul hW.2.1 hW.2.2.2;omega
 have hm:(Y:Int)*(W:Int)=((Y*W:Nat):Int):=by push_cast;rfl
 obtain⟨bA,oA,rfl,hA⟩:=hr.at_ (by omega:0<z.length);have e:jP W H z X Y=if z.getD ((Y:Int)*W+X).toNat 0 = -32768 then (0,8)else (z.getD ((Y:Int)*W+X).toNat 0,0):=if_neg ho;rw[e];refine aB
 ·exact cM rfl rfl rfl (.nil _) ⟨by rw[if_pos oa],rfl⟩
 ·exact cM rfl rfl rfl (.nil _) ⟨by rw[if_neg oa],rfl⟩
theorem bFi(W H cell:Nat)(Af:Option Addr)(cf:Nat)(f:List Int)(ox oy:Int)(R:Nat)(w:World)(hr:bF w (aV []) Af f.length cf 1 (aC .i16 f))(hW:2≤W∧W≤256∧2≤H∧H≤256∧1≤cell∧cell≤1000)(hz:f.length=W*H)(hi:dK f)(hox:aP .i32 ox)(hoy:aP .i32 oy)(hR:4≤R∧R≤32):
  aF prog 12 [.agg #[.int .i64 W,.int .i64 H,.slice Af f.length cf,.int .i64 cell,.int .i32 ox,.int .i32 oy],.int .i64 R] [] w (fun v S'=>∃K:eT,K.ys=fR W H cell ox oy f∧K.room=R∧v=.pointer (some ⟨K.g,0,none⟩)∧S'=K.H (rD R)):=by
 refine aJ func12 rfl ntmps12 rfl ⟨aE,.nil⟩ (fun n=>?_);simp only[aG];refine aB;refine lf rfl rfl rfl (S:=[]) (fun w hw ho=>aK7 W H cell Af cf f ox oy w ⟨hr.h.go hw (aD.nil _)⟩ hW hz hi hox hoy) ?_;rintro v S' ⟨Ab,cb,rfl,rfl⟩;have hF:=aF9 (ox:=ox) (oy:=oy) hW hz hi (by omega:1≤R∧R≤32);have hget:=aJv (ox:=ox) (oy:=oy) hW hz hi;generalize fR W H cell ox oy f=bb at *;refine aB;refine lf rfl rfl rfl (S:=[]) (fun w hw ho=>aMo Ab cb bb R w ⟨Ro.row hw (aD.nil _) (by refine bV)⟩ hF.u8 hF.len oo) ?_;rintro v S' (⟨code,hne,rfl,rfl,⟨h,-⟩ | ⟨-,h⟩⟩ | ⟨-,-,K,hys,hrm,rfl,rfl⟩)
 ·exfalso;omega
 ·exact absurd (h.one hget) hne
 have hrm:K.room=R:=oo;rw[hrm];refine aB;exact aK rfl rfl aA.au ⟨K,hys,hrm,rfl,rfl⟩
theorem bEk(m x:Nat)(w:World)(hm:m<8589934592)(hx:x<18446744073709551616):aF prog 90 [.int .u64 m,.int .u64 x] [] w (fun v S'=>v=.bool (decide (m*m≤x))∧S'=[]):=by
 refine aJ func90 rfl ntmps90 rfl ⟨aE,.nil⟩ (fun n=>?_);simp only[aG];rcases Nat.eq_zero_or_pos m with h|h
 ·subst h;refine aB;all_goals first
   | (exfalso;omega)
   | exact aK rfl rfl (.nil _) ⟨rfl,rfl⟩
 ·have hq:=bFn x m;refine aB;all_goals first
   | (exfalso;omega)
   | (refine aK rfl rfl (.nil _) ⟨congrArg Value.bool ?_, rfl⟩
      rw [decide_eq_decide];unfold quN;rw [Int.ofNat_le];exact Nat.le_div_iff_mul_le h)
theorem bFs(x:Nat)(w:World)(hx:x<18446744073709551616):aF prog 43 [.int .u64 x] [] w (fun v S'=>v=.int .u64 (gE x:Nat)∧S'=[]):=by
 refine aJ func43 rfl ntmps43 rfl ⟨aE,.nil⟩ (fun n=>?_);simp only[aG];refine aB;refine bT (X:=Nat×Nat) (fun q=>q.1<q.2∧q.2≤4294967296∧q.1*q.1≤x∧x<q.2*q.2) (fun q=>[(0,.int .u64 x),(3,.int .u64 q.1),(4,.int .u64 q.2)]) (fun _=>[]) (fun q=>q.2-q.1) (0,4294967296) ⟨od,Nat.le_refl _,Nat.zero_le _,hx⟩ ⟨rfl,rfl,rfl,trivial⟩ (.nil _) ?_;rintro⟨lo,hi⟩ ⟨h1,h2,h3,h4⟩;dsimp only at h1 h2 h3 h4 ⊢;rcases Nat.lt_or_ge 1 (hi-lo) with h|h
 ·obtain⟨m,hm⟩:∃m,(lo+hi)/2=m:=⟨_,rfl⟩;have hm2:((lo:Int)+hi)/2=m:=oo;refine aB;rw[hm2];refine bQ rfl rfl rfl (fun w _=>bEk m x w oo hx) ?_;rcases Nat.lt_or_ge x (m*m) with h5|h5
  ·rw[decide_eq_false oo];refine aB;exact aN (lo,m) ⟨by show lo<m;omega,by show m≤_;omega,h3,h5⟩ (by show m-lo<hi-lo;omega) ⟨rfl,rfl,by simp[aH],trivial⟩ (.nil _)
  ·rw[decide_eq_true h5];refine aB;exact aN (m,hi) ⟨by show m<hi;omega,h2,h5,h4⟩ (by show hi-m<hi-lo;omega) ⟨rfl,by simp[aH],rfl,trivial⟩ (.nil _)
 ·have e:gE x=lo:=aGb h3 (by rw[show lo+1=hi by omega];exact h4);rw[e];refine aB;exact aK rfl rfl (.nil _) ⟨rfl,rfl⟩
end Go.Proofs.YtpmkboockihdbaaGreat
namespace Go.Proofs.YtpmkboockihdbaaGreat
attribute [local irreducible] OJ J bO Code.wpIn wpListIn Oper.wpIn bodyPost CallsIn aF
def aA6(n i:Nat):Nat:=n/2^i%2
def aA8(n:Nat):List Int:=(List.range 129).map fun i=>((aA6 n i:Nat):Int)
theorem aPw(n:Nat):(aA8 n).length=129:=by simp[aA8]
theorem bBb(n:Nat){i:Nat}(h:i<129):(aA8 n).getD i 0=((aA6 n i:Nat):Int):=by unfold aA8;rw[List.getD_eq_getElem?_getD,List.getElem?_map,List.getElem?_range h];rfl
theorem aPv(n i:Nat):aA6 n i<2:=Nat.mod_lt _ od
def aFx(m n i:Nat):Nat:=(m%2^i+n%2^i)/2^i
theorem bEr(m n:Nat):aFx m n 0=0:=by simp[aFx,Nat.mod_one]
theorem bEq(m n i:Nat):aFx m n i<2:=by unfold aFx;have h:=Nat.two_pow_pos i;have h1:=Nat.mod_lt m h;have h2:=Nat.mod_lt n h;exact Nat.div_lt_of_lt_mul oo
theorem aQ0(m i:Nat):m%2^(i+1)=m%2^i+2^i*aA6 m i:=by unfold aA6;rw[Nat.mod_pow_succ]
theorem bEi(m n i:Nat):(aA6 m i+aA6 n i+aFx m n i)%2=aA6 (m+n) i∧(aA6 m i+aA6 n i+aFx m n i)/2=aFx m n (i+1):=by
 have hp:=Nat.two_pow_pos i;constructor
 ·have e:(m+n)/2^i=m/2^i+n/2^i+aFx m n i:=by
   unfold aFx;have h1:=Nat.div_add_mod m (2^i);have h2:=Nat.div_add_mod n (2^i);have h3:m+n=(m%2^i+n%2^i)+2^i*(m/2^i+n/2^i):=by rw[Nat.mul_add];omega
   conv=>lhs;rw[h3]
   rw[Nat.add_mul_div_left _ _ hp];omega
  unfold aA6;rw[e];omega
 ·have e:aFx m n (i+1)=((m%2^i+n%2^i)+2^i*(aA6 m i+aA6 n i))/(2^i*2):=by
   unfold aFx;rw[aQ0,aQ0,Nat.mul_add];congr 1
   ·omega
  rw[e,← Nat.div_div_eq_div_mul,Nat.add_mul_div_left _ _ hp];unfold aFx;congr 1;omega
theorem aXn(i:Nat):aA6 0 i=0:=by simp[aA6]
theorem bDj{m n:Nat}: ∀k,m<2^k→n<2^k→(∀i,i<k→aA6 m i=aA6 n i)→m=n:=by
 intro k
 induction k generalizing m n with
 | zero=>intro h1 h2 _;simp at h1 h2;omega
 | succ k ih =>
  intro h1 h2 h;have e1:=aQ0 m k;have e2:=aQ0 n k;rw[Nat.mod_eq_of_lt h1]at e1;rw[Nat.mod_eq_of_lt h2]at e2;have hp:=Nat.two_pow_pos k;have hb:∀i,i<k→aA6 (m%2^k) i=aA6 (n%2^k) i:=fun i hi=>by
   have key:∀x:Nat,aA6 (x%2^k) i=aA6 x i:=fun x=>by
    unfold aA6;have:2^k=2^i*2^(k-i):=by rw[← Nat.pow_add];congr 1;omega
    rw[this,Nat.mod_mul_right_div_self,Nat.mod_mod_of_dvd];exact⟨2^(k-i-1),by rw[← Nat.pow_succ'];congr 1;omega⟩
   rw[key,key];exact h i oo
  have:=ih (Nat.mod_lt m hp) (Nat.mod_lt n hp) hb;rw[e1,e2,this,h k oo]
theorem bGl{n:Nat}(h:n<2^129):(∀i,i<129→aA6 n i=0)↔n=0 :=
 ⟨fun q=>bDj 129 h od (fun i hi=>by rw[q i hi,aXn]),fun e i _=>by rw[e,aXn]⟩
theorem bFc(m n i:Nat):m%2^(i+1)<n%2^(i+1)↔(aA6 m i<aA6 n i∨(aA6 m i=aA6 n i∧m%2^i<n%2^i)):=by
 have hp:=Nat.two_pow_pos i;have h1:=Nat.mod_lt m hp;have h2:=Nat.mod_lt n hp;have b1:=aPv m i;have b2:=aPv n i;rw[aQ0,aQ0];generalize aA6 m i=a at *;generalize aA6 n i=b at *;generalize 2^i=p at *;obtain rfl|rfl:a=0∨a=1:=oo
 ·obtain rfl|rfl:b=0∨b=1:=oo
  ·omega
  ·omega
 ·obtain rfl|rfl:b=0∨b=1:=oo
  ·omega
  ·omega
theorem bFf(a b i:Nat):a*(b%2^(i+1))=a*(b%2^i)+aA6 b i*(a*2^i):=by rw[aQ0,Nat.mul_add];congr 1;rw[Nat.mul_comm (aA6 b i),Nat.mul_assoc]
theorem bGh(n k i:Nat)(h:i<64):n/2^k/2^i%2^(64-i)=2*(n/2^k/2^(i+1)%2^(64-(i+1)))+aA6 n (k+i):=by unfold aA6;have e:64-i=(64-(i+1))+1:=oo;rw[e,Nat.pow_succ,Nat.mul_comm (2^_) 2,Nat.mod_mul,Nat.pow_succ 2 i,← Nat.div_div_eq_div_mul (n/2^k),Nat.pow_add,Nat.div_div_eq_div_mul n];omega
theorem aUv(n m:Nat):(n:Int).tdiv (m:Int)=((n/m:Nat):Int):=by rw[Int.tdiv_eq_ediv_of_nonneg (Int.natCast_nonneg n),Int.natCast_ediv]
theorem bEc(n:Nat)(i:Nat):((n:Int).tdiv ((2^i:Nat):Int)).tdiv 2=(n:Int).tdiv ((2^(i+1):Nat):Int):=by rw[aUv,aUv,show (2:Int)=((2:Nat):Int)from rfl,aUv,Nat.div_div_eq_div_mul,Nat.pow_succ]
theorem bG6(x:Int)(i:Nat):(x.tdiv ((2^i:Nat):Int)).tdiv 2=x.tdiv ((2^(i+1):Nat):Int):=by
 rcases Int.lt_or_le x 0 with h|h
 ·obtain⟨n,rfl⟩:∃n:Nat,x = -(n:Int):=⟨x.natAbs,oo⟩;rw[Int.neg_tdiv,Int.neg_tdiv,Int.neg_tdiv,bEc]
 ·obtain⟨n,rfl⟩:∃n:Nat,x=(n:Int):=⟨x.toNat,oo⟩;exact bEc n i
theorem bG9(x:Int)(i:Nat):((x.tdiv ((2^i:Nat):Int)).tmod 2≠0)↔aA6 x.natAbs i=1:=by
 have key:∀n:Nat,((n:Int).tdiv ((2^i:Nat):Int))=((n/2^i:Nat):Int):=fun n=>aUv n _;have km:∀n:Nat,((n:Int).tmod 2)=((n%2:Nat):Int):=fun n=>by rw[Int.tmod_eq_emod_of_nonneg (Int.natCast_nonneg n)];omega
 unfold aA6;rcases Int.lt_or_le x 0 with h|h
 ·obtain⟨n,rfl⟩:∃n:Nat,x = -(n:Int):=⟨x.natAbs,oo⟩;rw[Int.neg_tdiv,key,Int.neg_tmod,km,Int.natAbs_neg,Int.natAbs_natCast];generalize n/2^i=q;omega
 ·obtain⟨n,rfl⟩:∃n:Nat,x=(n:Int):=⟨x.toNat,oo⟩;rw[key,km,Int.natAbs_natCast];generalize n/2^i=q;omega
end Go.Proofs.YtpmkboockihdbaaGreat
namespace Go.Proofs.YtpmkboockihdbaaGreat
open Go.RowKit _root_.Go.Proofs.Tryz
abbrev aBr(c:Bool)(n:Nat):List Value:=.bool c::aC .i64 (aA8 n)
theorem aQ6(n:Nat):(aC .i64 (aA8 n)).length=129:=by simp[aC,aPw]
class aIx(i:Nat):Prop where h:i<129
instance (n:Nat):tU (aC .i64 (aA8 n)) 129:=⟨aQ6 n⟩
instance (n:Nat):Tk (aC .i64 (aA8 n)) 129 (aC .i64 (aA8 n)):=⟨by rw[List.take_of_length_le (by rw[aQ6];exact Nat.le_refl _)],aQ6 n⟩
theorem bC5(n:Nat){i:Nat}(h:i<129):(aC .i64 (aA8 n))[i]? = some (.int .i64 (aA6 n i:Nat)):=by have:=bBb n h;rw[List.getD_eq_getElem?_getD,List.getElem?_eq_getElem (by rw[aPw];exact h)]at this;simp only[Option.getD_some]at this;simp[aC,aPw,h,this]
instance (n i:Nat)[h:aIx i]:cZ (aC .i64 (aA8 n)) i (.int .i64 (aA6 n i:Nat)):=⟨bC5 n h.h⟩
instance (u:Value)(r:List Value)(q:Nat)(v:Value)[h:cZ r q v]:cZ (u::r) (1+q) v:=⟨by rw[Nat.add_comm];simpa using h.h⟩
instance (u:Value)(r:List Value)(q:Nat)(v:Value)(o:List Value)[h:jL r q v o]:jL (u::r) (1+q) v (u::o):=⟨by obtain⟨h1,h2⟩:=h.h;rw[Nat.add_comm];simp[h1];omega⟩
instance (m n:Nat):jK (aC .i64 (aA8 m)) 0 (aC .i64 (aA8 n)) (aC .i64 (aA8 n)):=⟨by have h1:=aQ6 m;have h2:=aQ6 n;refine⟨?_,oo⟩;rw[List.take_zero,List.nil_append,Nat.zero_add,h2,← h1,List.drop_length,List.append_nil]⟩
instance:rO prog 3 1:=⟨Tryz.t3,by kernel_rfl,by kernel_rfl⟩
def bEg:Value:=.agg (aC .i64 (aA8 0)).toArray
def bEh:Value:=.agg (aBr false 0).toArray
instance:bH prog 345 129 1032 bEg:=⟨Tryz.t345,by kernel_rfl,by kernel_rfl,rfl,rfl⟩
instance:bH prog 347 130 1040 bEh:=⟨Tryz.t347,by kernel_rfl,by kernel_rfl,rfl,rfl⟩
instance:ZC bEg (aC .i64 (aA8 0)):=⟨rfl⟩
instance:ZC bEh (aBr false 0):=⟨rfl⟩
theorem aQe(s k j:Nat):aA6 (s%2^k) j=if j<k then aA6 s j else 0:=by
 unfold aA6;split
 ·rename_i h;rw[show 2^k=2^j*2^(k-j) by rw[← Nat.pow_add];congr 1;omega,Nat.mod_mul_right_div_self,Nat.mod_mod_of_dvd];exact⟨2^(k-j-1),by rw[← Nat.pow_succ'];congr 1;omega⟩
 ·rename_i h;have:s%2^k<2^j:=Nat.lt_of_lt_of_le (Nat.mod_lt _ (Nat.two_pow_pos k)) (Nat.pow_le_pow_right od oo);rw[Nat.div_eq_of_lt this]
theorem bDh{m n:Nat}(h:∀i,i<129→aA6 m i=aA6 n i):aA8 m=aA8 n:=by unfold aA8;refine List.map_congr_left fun i hi=>?_;rw[h i (List.mem_range.1 hi)]
theorem bEn(n:Nat):aA8 (n%2^129)=aA8 n:=bDh fun i hi=>by rw[aQe,if_pos hi]
theorem bDi(n:Nat):aA8 (n%2^0)=aA8 0:=by rw[Nat.pow_zero,Nat.mod_one]
theorem bEo(s:Nat){i:Nat}(hi:i<129):(aA8 (s%2^i)).set i (aA6 s i:Nat)=aA8 (s%2^(i+1)):=by
 refine List.ext_getElem (by simp[aPw]) fun j h1 h2=>?_;have hj:j<129:=by simpa [aPw] using h2
 rw[List.getElem_set];simp only[aA8,List.getElem_map,List.getElem_range,aQe];split
 ·rename_i h;subst h;rw[if_pos (Nat.lt_succ_self _)]
 ·rename_i h;by_cases hji:j<i
  ·rw[if_pos hji,if_pos oo]
  ·rw[if_neg hji,if_neg oo]
theorem bE3(s:Nat){i:Nat}(hi:i<129){x:Int}(hx:x=(aA6 s i:Nat)):jL (aC .i64 (aA8 (s%2^i))) i (.int .i64 x) (aC .i64 (aA8 (s%2^(i+1)))):=⟨by subst hx;refine⟨?_,by rw[aQ6];exact hi⟩;rw[← bEo s hi];simp[aC]⟩
theorem bEm(s:Nat){i:Nat}(h:aA6 s i=0):aA8 (s%2^(i+1))=aA8 (s%2^i):=bDh fun j hj=>by
 rw[aQe,aQe];by_cases hji:j<i
 ·rw[if_pos hji,if_pos oo]
 ·rw[if_neg hji];split
  ·rw[show j=i by omega,h]
  ·rfl
section
variable {P:Program} (w:World)
theorem bDn(d:Nat){e:TypeId}{k k':IntKind}(hu:P.underlying e=some (.int k'))(xs ys:List Int):∀is:List Nat,(∀i∈is,i<xs.length∧i<ys.length) →
  (Op.eqItems (d+1) e 1 (aC k xs).toArray (aC k ys).toArray is).run P w=.ok (is.all fun i=>xs.getD i 0==ys.getD i 0) w
 | [],_=>by simp[Op.eqItems]
 | i::is,h=>by
  have hi:=h i aE;have ih:=bDn d (k:=k) hu xs ys is (fun j hj=>h j (by simp[hj]));have hp:P.plainKey e=true:=by simp[Program.plainKey,hu]
  have e1:(part e (aC k xs).toArray (i*1)).run P w=.ok (.int k (xs.getD i 0)) w:=run_part_plain w hp (by simp[aC,hi.1,List.getD_eq_getElem?_getD]);have e2:(part e (aC k ys).toArray (i*1)).run P w=.ok (.int k (ys.getD i 0)) w:=run_part_plain w hp (by simp[aC,hi.2,List.getD_eq_getElem?_getD]);simp only[Op.eqItems,Sem.run_bind,e1,e2,Result.andThen_ok,run_equalIn_int w d e k k' _ _ hu,List.all_cons];by_cases hc:xs.getD i 0=ys.getD i 0
  ·have hb:(xs.getD i 0==ys.getD i 0)=true:=by simpa using hc
   rw[hb];simpa using ih
  ·have hb:(xs.getD i 0==ys.getD i 0)=false:=by simpa using hc
   rw[hb];simp
end
theorem bEj{m n:Nat}(hm:m<680564733841876926926749214863536422912)(hn:n<680564733841876926926749214863536422912):((List.range 129).all fun i=>(aA8 m).getD i 0==(aA8 n).getD i 0)=decide (m=n):=by
 rw[Bool.eq_iff_iff,List.all_eq_true,decide_eq_true_iff];constructor
 ·intro h;refine bDj 129 hm hn fun i hi=>?_;have:=h i (List.mem_range.2 hi);rw[bBb m hi,bBb n hi,beq_iff_eq]at this;omega
 ·rintro rfl i _;simp
theorem bFm(t u:TypeId)(x y:Operand)(m n:Nat)(ht:t=345):PV prog (.binOp .eql t x y u) [.agg (aC .i64 (aA8 m)).toArray,.agg (aC .i64 (aA8 n)).toArray] (.bool (decide (m=n))) (m<680564733841876926926749214863536422912∧n<680564733841876926926749214863536422912):=⟨by
 subst ht;rintro⟨hm,hn⟩ ρ ⟨dst,op',ty,pos,aft,gd⟩ rfl h w;obtain⟨h1,h2⟩:=qZ h;have hS:prog.underlying 345=some (.array 129 3):=by kernel_rfl
 have hE:prog.underlying 3=some (.int .i64):=by kernel_rfl
 obtain⟨i,hi⟩:=info_of_underlying hE;have hc:prog.cellsOf 3=1:=by kernel_rfl
 have hm2:prog.eqGuardType prog.depth 345=false:=by kernel_rfl
 simp only[execOp,h1,h2,Sem.run_bind,run_eqGuard_agg w _ _ _ _ _ _ hm2,Result.andThen_ok];rw[run_eql_struct,show (10000:Nat)=9999+1 from rfl,run_equalIn_array w 9999 _ _ hS hi,hc,show (9999:Nat)=9998+1 from rfl,
  bDn w 9998 hE (aA8 m) (aA8 n) (List.range 129) (fun i hi=>by rw[aPw,aPw];exact⟨List.mem_range.1 hi,List.mem_range.1 hi⟩),bEj hm hn]
 rfl⟩
instance eqBits_pv(u:TypeId)(x y:Operand)(m n:Nat):PV prog (.binOp .eql 345 x y u) [.agg (aC .i64 (aA8 m)).toArray,.agg (aC .i64 (aA8 n)).toArray] (.bool (decide (m=n))) (m<680564733841876926926749214863536422912∧n<680564733841876926926749214863536422912):=bFm _ u x y m n rfl
instance {w0:World}{W:Nat→Prop}{H:List HE}(u:TypeId)(x y:Operand)(m n:Nat):MS prog w0 W H (.binOp .eql 345 x y u) [.agg (aC .i64 (aA8 m)).toArray,.agg (aC .i64 (aA8 n)).toArray] (.bool (decide (m=n))) (m<680564733841876926926749214863536422912∧n<680564733841876926926749214863536422912):=⟨by intro hc F n N ds σ dd ty pos aft gd K Q _ hv hdN h;exact dS aE rfl hdN (fun a w ha _=>aDq (o:=⟨some dd,_,ty,pos,aft,gd⟩) hv hc a.eval (fun x _ u hu=>ha.eval hu) w) h⟩
theorem bDv{n:Nat}(h:n<680564733841876926926749214863536422912):n%2^129=n:=Nat.mod_eq_of_lt h
attribute [local irreducible] OJ J bO Code.wpIn wpListIn Oper.wpIn bodyPost CallsIn aF
instance add3_cv(m n:Nat):CV prog 261 [.agg (aC .i64 (aA8 m)).toArray,.agg (aC .i64 (aA8 n)).toArray] (.agg (aC .i64 (aA8 (m+n))).toArray) True:=⟨fun _ w=>by
 refine aJ func261 rfl ntmps261 rfl ⟨aE,.nil⟩ (fun _=>?_);simp only[aG];refine aB;rename_i b2 b3 b4 b5;refine bT (X:=Nat) (fun i=>i≤129) (fun i=>[(2,.pointer (some ⟨b2,0,none⟩)),(3,.pointer (some ⟨b3,0,none⟩)),(4,.pointer (some ⟨b4,0,none⟩)),(5,.pointer (some ⟨b5,0,none⟩)),(6,.int .i64 (aFx m n i:Nat)),(7,.int .i64 i)])
  (fun i=>[.blk b2 345 (aC .i64 (aA8 m)),.blk b3 345 (aC .i64 (aA8 n)),.blk b4 345 (aC .i64 (aA8 0)),.blk b5 345 (aC .i64 (aA8 ((m+n)%2^i)))]) (fun i=>129-i) 0 oo ⟨rfl,rfl,rfl,rfl,by rw[bEr];rfl,rfl,trivial⟩ (by rw[bDi];exact aA.au) ?_
 intro i hi;rcases Nat.lt_or_ge i 129 with h|h
 ·have iL:aIx i:=⟨h⟩;obtain⟨a1,a2⟩:=bEi m n i;have b1:=aPv m i;have b2':=aPv n i;have b3':=bEq m n i;have o1:jL (aC .i64 (aA8 ((m+n)%2^i))) i (.int .i64 ((((aA6 m i:Nat):Int)+(aA6 n i:Nat)+(aFx m n i:Nat))%2)) (aC .i64 (aA8 ((m+n)%2^(i+1)))):=bE3 (m+n) h oo;refine aB;refine aN (i+1) h (by show 129-(i+1)<129-i;omega) ⟨rfl,rfl,rfl,rfl,?_,by simp[aH],trivial⟩ aA.au;simp only[aH,List.lookup,Nat.beq];congr 2;omega
 ·obtain rfl:i=129:=oo;rw[bEn];refine aB;refine bI;exact⟨rfl,rfl⟩⟩
instance shift3_cv(m:Nat):CV prog 262 [.agg (aC .i64 (aA8 m)).toArray] (.agg (aC .i64 (aA8 (2*m))).toArray) True:=⟨fun _ w=>by rw[show 2*m=m+m by omega];refine aJ func262 rfl ntmps262 rfl ⟨aE,.nil⟩ (fun _=>?_);simp only[aG];refine aB;refine bI;exact⟨rfl,rfl⟩⟩
instance zero3_cv(c:Bool)(m:Nat):CV prog 263 [.agg (aBr c m).toArray] (.bool (decide (m=0))) (m<680564733841876926926749214863536422912):=⟨fun hm w=>by
 refine aJ func263 rfl ntmps263 rfl ⟨aE,.nil⟩ (fun _=>?_);simp only[aG];refine aB;rename_i b1;refine bT (X:=Nat) (fun i=>i≤129∧∀j,j<i→aA6 m j=0) (fun i=>[(1,.pointer (some ⟨b1,0,none⟩)),(3,.int .i64 i)])
  (fun i=>[.blk b1 347 (aBr c m)]) (fun i=>129-i) 0 ⟨oo,fun j hj=>by omega⟩ ⟨rfl,rfl,trivial⟩ aA.au ?_
 rintro i ⟨hi,hj⟩;rcases Nat.lt_or_ge i 129 with h|h
 ·have iL:aIx i:=⟨h⟩;have h0:aA6 m i≠0→m≠0:=fun h e=>h (by rw[e,aXn]);generalize hb:aA6 m i=b at *;refine aB
  ·refine aK rfl rfl (.nil _) ⟨congrArg Value.bool ?_,rfl⟩;have:=h0 oo;simp[this]
  ·refine aN (i+1) ⟨h,fun j hjj=>?_⟩ (by show 129-(i+1)<129-i;omega) ⟨rfl,by simp[aH],trivial⟩ aA.au;rcases Nat.lt_or_ge j i with h1|h1
   ·exact hj j h1
   ·rw[show j=i by omega,hb];omega
 ·obtain rfl:i=129:=oo;have:=(bGl hm).1 hj;refine aB;exact aK rfl rfl (.nil _) ⟨congrArg Value.bool (by simp[this]),rfl⟩⟩
theorem bEb{x:Int}(h:aP .i64 x)(i:Nat):aP .i64 (x.tdiv ((2^i:Nat):Int)):=by
 have h1 : -9223372036854775808≤x∧x≤9223372036854775807:=h;have hp:(1:Int)≤((2^i:Nat):Int):=by have:=Nat.two_pow_pos i;omega
 show -9223372036854775808≤_∧_≤9223372036854775807;generalize ((2^i:Nat):Int)=p at *;rcases Int.lt_or_le x 0 with h|h
 ·obtain⟨y,rfl⟩:∃y,x = -y:=⟨-x,oo⟩;rw[Int.neg_tdiv,Int.tdiv_eq_ediv_of_nonneg oo];have h3:0≤y/p:=Int.ediv_nonneg oo oo;have h4:y/p≤y:=Int.ediv_le_self _ oo;omega
 ·rw[Int.tdiv_eq_ediv_of_nonneg h];have h3:0≤x/p:=Int.ediv_nonneg h oo;have h4:x/p≤x:=Int.ediv_le_self _ h;omega
theorem bG5(x:Int):x.tdiv ((2^0:Nat):Int)=x:=by simp
theorem bG7{x:Int}{i:Nat}(h:x.tdiv ((2^i:Nat):Int)=0):x.natAbs%2^i=x.natAbs:=by refine Nat.mod_eq_of_lt ?_;have hp:=Nat.two_pow_pos i;have h1:=congrArg Int.natAbs h;rw[Int.natAbs_tdiv,Int.natAbs_natCast]at h1;exact(Nat.div_eq_zero_iff_lt hp).1 h1
theorem bE1(x:Int)(hx:aP .i64 x)(w:World):aF prog 260 [.int .i64 x] [] w (fun v S'=>v=.agg (aBr (decide (x<0)) x.natAbs).toArray∧S'=[]):=by
 refine aJ func260 rfl ntmps260 rfl ⟨aE,.nil⟩ (fun _=>?_);simp only[aG];generalize hneg:decide (x<0)=c;have iN:∀w0 W H t u a b,MS prog w0 W H (.binOp .lss t a b u) [.int .i64 x,.int .i64 0] (.bool c) True:=by subst hneg;intros;infer_instance
 refine aB;rename_i b2 b3;refine bT (X:=Nat) (fun i=>i≤65) (fun i=>[(2,.pointer (some ⟨b2,0,none⟩)),(3,.pointer (some ⟨b3,0,none⟩)),(4,.int .i64 (x.tdiv ((2^i:Nat):Int))),(5,.int .i64 i)])
  (fun i=>[.blk b2 347 (aBr false 0),.blk b3 347 (aBr c (x.natAbs%2^i))]) (fun i=>65-i) 0 oo ⟨rfl,rfl,by rw[bG5];rfl,rfl,trivial⟩ (by simp only[aBr,bDi];exact aA.au) ?_
 intro i hi;have hin:=bEb hx i;have hz:=bG7 (x:=x) (i:=i);have hs:=bG6 x i;have hin2:=bEb hx (i+1);have hb:=bG9 x i;rcases Nat.lt_or_ge i 65 with h|h
 ·have iL:aIx i:=⟨oo⟩;have o1:aA6 x.natAbs i=1→jL (aC .i64 (aA8 (x.natAbs%2^i))) i (.int .i64 1) (aC .i64 (aA8 (x.natAbs%2^(i+1)))):=fun h1=>bE3 x.natAbs oo (by rw[h1];rfl);have o2:=bEm x.natAbs (i:=i);have b1:=aPv x.natAbs i;rw[← hs]at hin2;generalize hy:x.tdiv ((2^i:Nat):Int)=y at *;by_cases hb1:y.tmod 2≠0
  ·have iS:=o1 (hb.1 hb1);refine aB
   ·refine aN (i+1) h (by show 65-(i+1)<65-i;omega) ⟨rfl,rfl,?_,by simp[aH],trivial⟩ aA.au;simp only[aH,List.lookup,Nat.beq];rw[← hs,kZ hin2]
   ·rename_i hy0;exfalso;apply hb1;rw[Classical.not_not.1 hy0];rfl
  ·have hb0:aA6 x.natAbs i=0:=by have:¬aA6 x.natAbs i=1:=fun h=>hb1 (hb.2 h);omega
   have e0:=o2 hb0;have iR:∀w0 W H t u a b,MS prog w0 W H (.binOp .neq t a b u) [.int .i64 (y.tmod 2),.int .i64 0] (.bool false) True:=by rw[Classical.not_not.1 hb1];intros;infer_instance
   refine aB
   ·refine aN (i+1) h (by show 65-(i+1)<65-i;omega) ⟨rfl,rfl,?_,by simp[aH],trivial⟩ (by simp only[aBr,e0];exact aA.au);simp only[aH,List.lookup,Nat.beq];rw[← hs,kZ hin2]
   ·rename_i hy0;rw[hz (Classical.not_not.1 hy0)];refine bI;exact⟨rfl,rfl⟩
 ·obtain rfl:i=65:=oo;have h1 : -9223372036854775808≤x∧x≤9223372036854775807:=hx;rw[show x.natAbs%2^65=x.natAbs from Nat.mod_eq_of_lt (by show x.natAbs<36893488147419103232;omega)];refine aB;refine bI;exact⟨rfl,rfl⟩
theorem bGb(a i:Nat):2*(a*2^i)=a*2^(i+1):=by rw[Nat.pow_succ,Nat.mul_left_comm,Nat.mul_comm 2 (2^i)]
theorem aU1(a b:Int)(ha:aP .i64 a)(hb:aP .i64 b)(c:Bool)(hs:decide (a<0)=c)(ht:decide (b<0)=c)(w:World):
  aF prog 221 [.int .i64 a,.int .i64 b] [] w (fun v S'=>v=.agg (aBr false (a.natAbs*b.natAbs)).toArray∧S'=[]):=by
 have h1 : -9223372036854775808≤a∧a≤9223372036854775807:=ha;have h2 : -9223372036854775808≤b∧b≤9223372036854775807:=hb;have ia:CV prog 260 [.int .i64 a] (.agg (aBr c a.natAbs).toArray) True:=⟨fun _ w=>by have:=bE1 a ha w;rwa [hs]at this⟩;have ib:CV prog 260 [.int .i64 b] (.agg (aBr c b.natAbs).toArray) True:=⟨fun _ w=>by have:=bE1 b hb w;rwa [ht]at this⟩;have hm:b.natAbs%2^65=b.natAbs:=Nat.mod_eq_of_lt (by show b.natAbs<36893488147419103232;omega);have hp:a.natAbs*b.natAbs<680564733841876926926749214863536422912:=by have:=Nat.mul_le_mul (show a.natAbs≤9223372036854775808 by omega) (show b.natAbs≤9223372036854775808 by omega);omega
 refine aJ func221 rfl ntmps221 rfl ⟨aE,.nil⟩ (fun _=>?_);simp only[aG];clear hs ht;refine aB;rename_i b4 b5 b6 b7 b8;refine bT (X:=Nat) (fun i=>i≤65) (fun i=>[(4,.pointer (some ⟨b4,0,none⟩)),(5,.pointer (some ⟨b5,0,none⟩)),(6,.pointer (some ⟨b6,0,none⟩)),(7,.pointer (some ⟨b7,0,none⟩)),(8,.pointer (some ⟨b8,0,none⟩)),(9,.int .i64 i)])
  (fun i=>[.blk b4 347 (aBr false 0),.blk b5 347 (aBr c a.natAbs),.blk b6 347 (aBr c b.natAbs),.blk b7 347 (aBr false (a.natAbs*(b.natAbs%2^i))),.blk b8 345 (aC .i64 (aA8 (a.natAbs*2^i)))]) (fun i=>65-i) 0 oo ⟨rfl,rfl,rfl,rfl,rfl,rfl,trivial⟩ (by simp only[aBr,Nat.pow_zero,Nat.mod_one,Nat.mul_zero,Nat.mul_one];exact aA.au) ?_
 intro i hi;rcases Nat.lt_or_ge i 65 with h|h
 ·have iL:aIx i:=⟨oo⟩;have hst:=bFf a.natAbs b.natAbs i;have hb1:=aPv b.natAbs i;have e2:=bGb a.natAbs i;refine aB;all_goals rw[e2]
  ·refine aN (i+1) h (by show 65-(i+1)<65-i;omega) ⟨rfl,rfl,rfl,rfl,rfl,by simp[aH],trivial⟩ ?_;have:aA6 b.natAbs i=1:=oo;rw[hst,this,Nat.one_mul];exact aA.au
  ·refine aN (i+1) h (by show 65-(i+1)<65-i;omega) ⟨rfl,rfl,rfl,rfl,rfl,by simp[aH],trivial⟩ ?_;have:aA6 b.natAbs i=0:=oo;rw[hst,this,Nat.zero_mul,Nat.add_zero];exact aA.au
 ·obtain rfl:i=65:=oo;rw[hm];refine aB;refine bI;exact⟨rfl,rfl⟩
def aIs(m n:Nat):Int:=if m<n then -1 else if m=n then 0 else 1
instance less3_cv(m n:Nat):CV prog 264 [.agg (aC .i64 (aA8 m)).toArray,.agg (aC .i64 (aA8 n)).toArray] (.bool (decide (m<n))) (m<680564733841876926926749214863536422912∧n<680564733841876926926749214863536422912):=⟨fun hc w=>by
 refine aJ func264 rfl ntmps264 rfl ⟨aE,.nil⟩ (fun _=>?_);simp only[aG];refine aB;rename_i b2 b3;refine bT (X:=Nat) (fun k=>k≤129∧(m<n↔m%2^k<n%2^k)) (fun k=>[(2,.pointer (some ⟨b2,0,none⟩)),(3,.pointer (some ⟨b3,0,none⟩)),(5,.int .i64 ((k:Int)-1))])
  (fun k=>[.blk b2 345 (aC .i64 (aA8 m)),.blk b3 345 (aC .i64 (aA8 n))]) (fun k=>k) 129 ⟨Nat.le_refl _,by rw[bDv hc.1,bDv hc.2]⟩ ⟨rfl,rfl,rfl,trivial⟩ aA.au ?_
 rintro k ⟨hk,hl⟩;rcases Nat.eq_zero_or_pos k with h|h
 ·subst h;rw[Nat.pow_zero,Nat.mod_one,Nat.mod_one]at hl;refine aB;exact aK rfl rfl (.nil _) ⟨congrArg Value.bool (by simp;omega),rfl⟩
 ·obtain⟨i,rfl⟩:∃i,k=i+1:=⟨k-1,oo⟩;have iL:aIx i:=⟨oo⟩;have hs:=bFc m n i;rw[show (((i+1:Nat):Int)-1)=(i:Int) by omega];refine aB
  ·refine aK rfl rfl (.nil _) ⟨congrArg Value.bool ?_,rfl⟩;rw[Bool.eq_iff_iff,decide_eq_true_iff,decide_eq_true_iff,hl,hs];omega
  ·refine aN i ⟨oo,?_⟩ (Nat.lt_succ_self _) ⟨rfl,rfl,by simp[aH],trivial⟩ aA.au;rw[hl,hs];omega⟩
instance cmp3_cv(m n:Nat):CV prog 222 [.agg (aBr false m).toArray,.agg (aBr false n).toArray] (.int .i64 (aIs m n)) (m<680564733841876926926749214863536422912∧n<680564733841876926926749214863536422912):=⟨fun hc w=>by
 refine aJ func222 rfl ntmps222 rfl ⟨aE,.nil⟩ (fun _=>?_);simp only[aG];unfold aIs;refine aB;all_goals first
  | exact aK rfl rfl (.nil _) ⟨congrArg (Value.int .i64) (by split<;>(try split)<;>omega),rfl⟩
  | skip
 all_goals (refine kC (0::1::2::3::4::5::6::7::[]) ?_;intro _)
 all_goals (refine gP)
 all_goals exact aK rfl rfl (.nil _) ⟨congrArg (Value.int .i64) (by simp only[Bool.false_eq_true,iff_false,Classical.not_not]at *;split<;>(try split)<;>omega),rfl⟩⟩
theorem bDt{n i:Nat}{k:Nat}(h:n<2^k)(hk:k≤i):aA6 n i=0:=by unfold aA6;rw[Nat.div_eq_of_lt (Nat.lt_of_lt_of_le h (Nat.pow_le_pow_right od hk))]
theorem bF1(c:Bool)(m k:Nat)(hm:m<2^k)(hk:k<129)(w:World):aF prog 266 [.agg (aBr c m).toArray,.int .i64 k] [] w (fun v S'=>v=.bool true∧S'=[]):=by
 refine aJ func266 rfl ntmps266 rfl ⟨aE,.nil⟩ (fun _=>?_);simp only[aG];refine aB;rename_i b2;refine bT (X:=Nat) (fun i=>k+1≤i∧i≤129) (fun i=>[(1,.int .i64 k),(2,.pointer (some ⟨b2,0,none⟩)),(5,.int .i64 i)])
  (fun i=>[.blk b2 347 (aBr c m)]) (fun i=>129-i) (k+1) ⟨oo,oo⟩ ⟨rfl,rfl,rfl,trivial⟩ aA.au ?_
 rintro i ⟨hi1,hi⟩;rcases Nat.lt_or_ge i 129 with h|h
 ·have iL:aIx i:=⟨h⟩;have iG:cZ (aC .i64 (aA8 m)) i (.int .i64 0):=⟨by rw[bC5 m h,bDt hm (show k≤i by omega)];rfl⟩;refine aB;exact aN (i+1) ⟨oo,h⟩ (by show 129-(i+1)<129-i;omega) ⟨rfl,rfl,by simp[aH],trivial⟩ aA.au
 ·obtain rfl:i=129:=oo;have iL:aIx k:=⟨hk⟩;have iG:cZ (aC .i64 (aA8 m)) k (.int .i64 0):=⟨by rw[bC5 m hk,bDt hm (Nat.le_refl k)];rfl⟩;refine aB;exact aK rfl rfl (.nil _) ⟨rfl,rfl⟩
instance fits127_cv(c:Bool)(m:Nat):CV prog 266 [.agg (aBr c m).toArray,.int .i64 127] (.bool true) (m<170141183460469231731687303715884105728):=⟨fun h w=>bF1 c m 127 h od w⟩
instance radd_cv(m n:Nat):CV prog 223 [.agg (aBr false m).toArray,.agg (aBr false n).toArray] (.tuple #[.agg (aBr false (m+n)).toArray,.bool true]) (m+n<170141183460469231731687303715884105728):=⟨fun hc w=>by
 refine aJ func223 rfl ntmps223 rfl ⟨aE,.nil⟩ (fun _=>?_);simp only[aG];refine aB;all_goals (rename_i b2 b3 b4 b6 hz;refine fL [.blk b6 347 (aBr false (m+n))] (0::1::2::3::4::[]) aA.au ?_;intro _)
 all_goals (refine gP)
 all_goals (refine bI;exact⟨rfl,rfl⟩)⟩
def aFr(W H:Nat)(f:List Int)(X Y:Int)(i k:Nat):Int×Int:=if jR W H X Y then jP W H f (jT X i) (jT Y k)else (0,9)
theorem bEa{a b:Int}(hb:0<b):(if a.tmod b<0 then a.tdiv b-1 else a.tdiv b)=a/b:=by
 rcases Int.lt_or_le a 0 with h|h
 ·obtain⟨c,rfl⟩:∃c,a = -c:=⟨-a,oo⟩;rw[Int.neg_tdiv,Int.neg_tmod,Int.tdiv_eq_ediv_of_nonneg oo,Int.tmod_eq_emod_of_nonneg oo];have h1:=Int.mul_ediv_add_emod c b;have h2:=Int.emod_nonneg c (by omega:b≠0);have h3:=Int.emod_lt_of_pos c hb;generalize c/b=q at *;generalize c%b=r at *;split
  ·refine((Int.ediv_emod_unique (r:=b-r) (q:=-q-1) hb).2 ⟨?_,oo,oo⟩).1.symm;rw[Int.mul_sub,Int.mul_neg];omega
  ·refine((Int.ediv_emod_unique (r:=0) (q:=-q) hb).2 ⟨?_,oo,oo⟩).1.symm;rw[Int.mul_neg];omega
 ·rw[Int.tdiv_eq_ediv_of_nonneg h,Int.tmod_eq_emod_of_nonneg h,if_neg (by have:=Int.emod_nonneg a (by omega:b≠0);omega)]
theorem bEx(a b:Int)(w:World)(ha : -4611686018427387904≤a∧a≤4611686018427387904)(hb:0<b∧b≤4611686018427387904):aF prog 171 [.int .i64 a,.int .i64 b] [] w (fun v S'=>v=.int .i64 (a/b)∧S'=[]):=by
 have hq : -4611686018427387904≤a.tdiv b∧a.tdiv b≤4611686018427387904:=by have h1:=Int.natAbs_tdiv_le_natAbs a b;omega
 have e:=bEa (a:=a) hb.1;refine aJ func171 rfl ntmps171 rfl ⟨aE,.nil⟩ (fun n=>?_);simp only[aG];have iq:∀(w0:World) (W:Nat→Prop) (H:List HE) (t u:TypeId) (p q:Operand),MS prog w0 W H (.binOp .quo t p q u) [.int .i64 a,.int .i64 b] (.int .i64 (a.tdiv b)) True:=fun w0 W H t u p q=>⟨fun _ _ _ _ _ _ _ _ _ _ _ _ _ _ h1 h2 h3=>(inferInstance:MW prog w0 W H (.binOp .quo t p q u) [.int .i64 a,.int .i64 b] (.int .i64 (IntKind.i64.wrap (a.tdiv b))) (b≠0)).h oo h1 h2 (by rw[IntKind.wrap_i64,show (a.tdiv b+9223372036854775808)%18446744073709551616-9223372036854775808=a.tdiv b by omega];exact h3)⟩;have ir:∀(w0:World) (W:Nat→Prop) (H:List HE) (t u:TypeId) (p q:Operand),MS prog w0 W H (.binOp .rem t p q u) [.int .i64 a,.int .i64 b] (.int .i64 (a.tmod b)) True:=fun w0 W H t u p q=>⟨fun _ _ _ _ _ _ _ _ _ _ _ _ _ _ h1 h2 h3=>(inferInstance:MW prog w0 W H (.binOp .rem t p q u) [.int .i64 a,.int .i64 b] (.int .i64 (a.tmod b)) (b≠0)).h oo h1 h2 h3⟩;rcases Int.lt_or_le (a.tmod b) 0 with h|h
 ·rw[if_pos h]at e;rw[← e];refine aB;all_goals first
   | exact aK rfl rfl (.nil _) ⟨rfl,rfl⟩
   | (exfalso;omega)
 ·rw[if_neg oo]at e;rw[← e];refine aB;all_goals first
   | (exfalso;omega)
   | exact aK rfl rfl (.nil _) ⟨rfl,rfl⟩
theorem bFh(a b:Int)(w:World)(ha : -1152921504606846976≤a∧a≤1152921504606846976)(hb:0<b∧b≤1152921504606846976):aF prog 123 [.int .i64 a,.int .i64 b] [] w (fun v S'=>v=.int .i64 ((2*a+b)/(2*b))∧S'=[]):=by refine aJ func123 rfl ntmps123 rfl ⟨aE,.nil⟩ (fun n=>?_);simp only[aG];refine aB;refine bQ rfl rfl rfl (fun w _=>bEx (2*a+b) (2*b) w oo oo) ?_;refine aB;exact aK rfl rfl (.nil _) ⟨rfl,rfl⟩
theorem bFt(W H:Nat)(A:Option Addr)(m c:Nat)(X Y:Int)(w:World)(hm:1≤W∧W≤1000000∧1≤H∧H≤1000000):
  aF prog 220 [.agg #[.int .i64 W,.int .i64 H,.slice A m c],.int .i64 X,.int .i64 Y] [] w (fun v S'=>v=.bool (decide (jR W H X Y))∧S'=[]):=by
 refine aJ func220 rfl ntmps220 rfl ⟨aE,.nil⟩ (fun n=>?_);simp only[aG];refine aB;all_goals exact aK rfl rfl (.nil _) ⟨congrArg Value.bool (by rw[Bool.eq_iff_iff];simp only[decide_eq_true_eq,Bool.and_eq_true,Bool.false_eq_true,false_iff];unfold jR;omega),rfl⟩
theorem bDy(W H:Nat)(A:Option Addr)(c:Nat)(f:List Int)(X Y:Int)(i k:Nat)(w:World)(hr:bF w (aV []) A f.length c 1 (aC .i16 f))(hW:1≤W∧W≤256∧1≤H∧H≤256)(hz:f.length=W*H)(hf:dK f)(hik:i≤1∧k≤1):
  aF prog 170 [.agg #[.int .i64 W,.int .i64 H,.slice A f.length c],.int .i64 X,.int .i64 Y,.int .i64 i,.int .i64 k] [] w (fun v S'=>v=.tuple #[.int .i64 (aFr W H f X Y i k).1,.int .i64 (aFr W H f X Y i k).2]∧S'=[]):=by
 refine aJ func170 rfl ntmps170 rfl ⟨aE,.nil⟩ (fun n=>?_);simp only[aG];refine aB;refine bQ rfl rfl rfl (fun w _=>bFt W H A f.length c X Y w oo) ?_;by_cases hI:jR W H X Y
 ·rw[decide_eq_true hI,show aFr W H f X Y i k=jP W H f (jT X i) (jT Y k)from if_pos hI];have hI2:=hI;unfold jR at hI2;have hci:=xB (W:=W) (H:=H) hf (jT X i) (jT Y k);refine aB;all_goals
   refine eX 34 _ rfl (v':=.int .i64 (jT X i)) (congrArg (Value.int .i64) (by unfold jT;first|rw[if_pos oa]|rw[if_neg oa])) ?_;refine eX 38 _ rfl (v':=.int .i64 (jT Y k)) (congrArg (Value.int .i64) (by unfold jT;first|rw[if_pos oa]|rw[if_neg oa])) ?_;refine bQ rfl rfl rfl (fun w hw=>bE0 W H A c f (jT X i) (jT Y k) w ⟨hr.h.go hw (aD.nil _)⟩ hW hz) ?_;refine aB;exact cM rfl rfl rfl (.nil _) ⟨rfl,rfl⟩
 ·rw[decide_eq_false hI,show aFr W H f X Y i k=(0,9)from if_neg hI];refine aB;exact cM rfl rfl rfl (.nil _) ⟨rfl,rfl⟩
theorem bD8{W H:Nat}{f:List Int}{X Y:Int}(hI:jR W H X Y)(i:Nat):aFr W H f X Y (i%2) (i/2)=uD W H f X Y i:=if_pos hI
theorem bDm{W H:Nat}{f:List Int}(hf:dK f)(X Y:Int)(i k:Nat): -32768≤(aFr W H f X Y i k).1∧(aFr W H f X Y i k).1≤32767:=by
 unfold aFr;split
 ·exact xB hf _ _
 ·exact⟨od,od⟩
theorem bFq(W H:Nat)(A:Option Addr)(c:Nat)(f:List Int)(X Y:Int)(w:World)(hr:bF w (aV []) A f.length c 1 (aC .i16 f))(hW:1≤W∧W≤256∧1≤H∧H≤256)(hz:f.length=W*H)(hf:dK f):
  aF prog 122 [.agg #[.int .i64 W,.int .i64 H,.slice A f.length c],.int .i64 X,.int .i64 Y] [] w (fun v S'=>v=.int .i64 (eN W H f X Y)∧S'=[]):=by
 refine aJ func122 rfl ntmps122 rfl ⟨aE,.nil⟩ (fun n=>?_);simp only[aG];refine aB;rename_i b3;refine bT (X:=Nat) (fun i=>i≤4∧(0<i→jR W H X Y)∧oS W H f X Y i=0∨i=0) (fun i=>[(1,.int .i64 X),(2,.int .i64 Y),(3,.pointer (some ⟨b3,0,none⟩)),(7,.int .i64 i)])
  (fun _=>[.blk b3 28 [.int .i64 W,.int .i64 H,.slice A f.length c]]) (fun i=>4-i) 0 (.inr rfl) ⟨rfl,rfl,rfl,rfl,trivial⟩ aA.au ?_
 intro i hi0;have hi:i≤4∧(0<i→jR W H X Y)∧oS W H f X Y i=0:=by
  rcases hi0 with h|rfl
  ·exact h
  ·exact⟨oo,fun h=>by omega,rfl⟩
 obtain⟨h4,hin,hc0⟩:=hi;rcases Nat.lt_or_ge i 4 with h|h
 ·have e1:((i:Int)%2)=((i%2:Nat):Int):=oo;have e2:((i:Int)/2)=((i/2:Nat):Int):=oo;refine aB;rw[e1,e2];refine bQ rfl rfl rfl (fun w hw=>bDy W H A c f X Y (i%2) (i/2) w ⟨hr.h.go hw (aD.nil _)⟩ hW hz hf oo) ?_;refine bN;refine sP rfl ?_ ?_<;>intro h9
  ·have e5:eN W H f X Y=(aFr W H f X Y (i%2) (i/2)).2:=by
    by_cases hI:jR W H X Y
    ·rw[bD8 hI]at h9 ⊢;have ec:oS W H f X Y (i+1)=(uD W H f X Y i).2:=by rw[oS,if_neg (by rw[hc0];simp)]
     have e4:=aFe (k:=3-i) (by rw[ec];exact h9);rw[show i+1+(3-i)=4 by omega,ec]at e4;unfold eN;rw[if_pos hI,e4]
    ·rw[show aFr W H f X Y (i%2) (i/2)=(0,9)from if_neg hI];exact if_neg hI
   rw[e5];refine aB;exact aK rfl rfl (.nil _) ⟨rfl,rfl⟩
  ·have hI:jR W H X Y:=by
    by_cases hI:jR W H X Y
    ·exact hI
    ·rw[show aFr W H f X Y (i%2) (i/2)=(0,9)from if_neg hI]at h9;exact absurd od h9
   refine aB;exact aN (i+1) (.inl ⟨h,fun _=>hI,by rw[oS,if_neg (by rw[hc0];simp),← bD8 hI];exact Classical.not_not.1 h9⟩) (by show 4-(i+1)<4-i;omega) ⟨rfl,rfl,rfl,by simp[aH],trivial⟩ aA.au
 ·obtain rfl:i=4:=oo;rw[show eN W H f X Y=0 by unfold eN;rw[if_pos (hin oo),hc0]];refine aB;exact aK rfl rfl (.nil _) ⟨rfl,rfl⟩
def exT(W H:Nat)(f:List Int)(X Y:Int):Nat→Int
 | 0=>0
 | i+1=>exT W H f X Y i+(aFr W H f X Y (i%2) (i/2)).1*wt X (i%2)*wt Y (i/2)
theorem bEy{W H:Nat}{f:List Int}{X Y:Int}(h:eN W H f X Y=0):exT W H f X Y 4=exL (qT W H f X Y) (X%256) (Y%256):=by
 have hI:jR W H X Y:=by
  unfold eN at h;split at h
  ·assumption
  ·exact absurd h od
 have e:qT W H f X Y=[(uD W H f X Y 0).1,(uD W H f X Y 1).1,(uD W H f X Y 2).1,(uD W H f X Y 3).1]:=by unfold qT;rw[if_pos h];rfl
 rw[e];simp only[exT,exL,yP,wt,bD8 hI];simp only[Nat.zero_mod,Nat.zero_div,if_true,show 1%2=1 from rfl,show 1/2=0 from rfl,show 2%2=0 from rfl,show 2/2=1 from rfl,show 3%2=1 from rfl,show 3/2=1 from rfl,show ((1:Nat)=0)=False from by simp,if_false];rw[Int.add_mul,Int.add_mul];omega
theorem aW1(x:Int)(i:Nat):0≤wt x i∧wt x i≤256:=by unfold wt;split<;>omega
theorem bD9{W H:Nat}{f:List Int}(hf:dK f)(X Y:Int):∀i:Nat,-(2147483648*(i:Int))≤exT W H f X Y i∧exT W H f X Y i≤2147483648*(i:Int)
 | 0=>by simp[exT]
 | i+1=>by have h1:=bD9 hf (W:=W) (H:=H) X Y i;have h2:=bDm hf (W:=W) (H:=H) X Y (i%2) (i/2);have h3:=aW1 X (i%2);have h4:=aW1 Y (i/2);have m1:=fU 32768 256 (a:=(aFr W H f X Y (i%2) (i/2)).1) (b:=wt X (i%2)) oo oo;have m2:=fU 8388608 256 (a:=(aFr W H f X Y (i%2) (i/2)).1*wt X (i%2)) (b:=wt Y (i/2)) oo oo;rw[exT];push_cast;omega
theorem bGj{e c a b:Int}(h1:aP .i64 (c*a))(h2:aP .i64 (c*a*b))(h3:aP .i64 (e+c*a*b)):IntKind.i64.wrap (e+IntKind.i64.wrap (IntKind.i64.wrap (c*a)*b))=e+c*a*b:=by rw[kZ h1,kZ h2,kZ h3]
theorem bFr(W H:Nat)(A:Option Addr)(c:Nat)(f:List Int)(X Y:Int)(w:World)(hr:bF w (aV []) A f.length c 1 (aC .i16 f))(hW:1≤W∧W≤256∧1≤H∧H≤256)(hz:f.length=W*H)(hf:dK f)(hX:(0≤X∧X≤65536)∧(0≤Y∧Y≤65536)):
  aF prog 124 [.agg #[.int .i64 W,.int .i64 H,.slice A f.length c],.int .i64 X,.int .i64 Y] [] w (fun v S'=>v=.int .i64 (exT W H f X Y 4)∧S'=[]):=by
 refine aJ func124 rfl ntmps124 rfl ⟨aE,.nil⟩ (fun n=>?_);simp only[aG];refine aB;rename_i b3;refine bT (X:=Nat) (fun i=>i≤4) (fun i=>[(1,.int .i64 X),(2,.int .i64 Y),(3,.pointer (some ⟨b3,0,none⟩)),(7,.int .i64 (exT W H f X Y i)),(8,.int .i64 i)])
  (fun _=>[.blk b3 28 [.int .i64 W,.int .i64 H,.slice A f.length c]]) (fun i=>4-i) 0 oo ⟨rfl,rfl,rfl,rfl,rfl,trivial⟩ aA.au ?_
 intro i hi;rcases Nat.lt_or_ge i 4 with h|h
 ·have e1:((i:Int)%2)=((i%2:Nat):Int):=oo;have e2:((i:Int)/2)=((i/2:Nat):Int):=oo;have h1:=bD9 hf (W:=W) (H:=H) X Y i;have h2:=bDm hf (W:=W) (H:=H) X Y (i%2) (i/2);have h3:=aW1 X (i%2);have h4:=aW1 Y (i/2);have m1:=fU 32768 256 (a:=(aFr W H f X Y (i%2) (i/2)).1) (b:=wt X (i%2)) oo oo;have m2:=fU 8388608 256 (a:=(aFr W H f X Y (i%2) (i/2)).1*wt X (i%2)) (b:=wt Y (i/2)) oo oo;have ee:exT W H f X Y (i+1)=exT W H f X Y i+(aFr W H f X Y (i%2) (i/2)).1*wt X (i%2)*wt Y (i/2):=rfl;refine aB;rw[e1,e2];refine bQ rfl rfl rfl (fun w hw=>bDy W H A c f X Y (i%2) (i/2) w ⟨hr.h.go hw (aD.nil _)⟩ hW hz hf oo) ?_;refine aB;all_goals
   have w1:wt X (i%2)=if i%2=0 then 256-X%256 else X%256:=rfl;have w2:wt Y (i/2)=if i/2=0 then 256-Y%256 else Y%256:=rfl;first
    | rw[if_pos (by omega:i%2=0)]at w1
    | rw[if_neg (by omega:¬i%2=0)]at w1
   first
    | rw[if_pos (by omega:i/2=0)]at w2
    | rw[if_neg (by omega:¬i/2=0)]at w2
   rw[w1]at m1 m2 ee;rw[w2]at m2 ee;rw[bGj (by simp only[aP];omega) (by simp only[aP];omega) (by simp only[aP];omega),← ee];exact aN (i+1) (by show i+1≤4;omega) (by show 4-(i+1)<4-i;omega) ⟨rfl,rfl,rfl,rfl,rfl,trivial⟩ aA.au
 ·obtain rfl:i=4:=oo;refine aB;exact aK rfl rfl (.nil _) ⟨rfl,rfl⟩
theorem bDz(W H:Nat)(A:Option Addr)(c:Nat)(f:List Int)(X Y:Int)(w:World)(hr:bF w (aV []) A f.length c 1 (aC .i16 f))(hW:1≤W∧W≤256∧1≤H∧H≤256)(hz:f.length=W*H)(hf:dK f):
  aF prog 61 [.agg #[.int .i64 W,.int .i64 H,.slice A f.length c],.int .i64 X,.int .i64 Y] [] w (fun v S'=>v=.tuple #[.int .i64 (lI W H f X Y),.int .i64 (eN W H f X Y)]∧S'=[]):=by
 refine aJ func61 rfl ntmps61 rfl ⟨aE,.nil⟩ (fun n=>?_);simp only[aG];refine aB;refine bQ rfl rfl rfl (fun w hw=>bFq W H A c f X Y w ⟨hr.h.go hw (aD.nil _)⟩ hW hz hf) ?_;unfold lI;by_cases hc:eN W H f X Y=0
 ·have hI:jR W H X Y:=by
   unfold eN at hc;split at hc
   ·assumption
   ·exact absurd hc od
  unfold jR at hI;rw[if_pos hc,hc];have he:=bD9 hf (W:=W) (H:=H) X Y 4;refine aB;refine bQ rfl rfl rfl (fun w hw=>bFr W H A c f X Y w ⟨hr.h.go hw (aD.nil _)⟩ hW hz hf oo) ?_;rw[bEy hc]at he ⊢;refine aB;refine bQ rfl rfl rfl (fun w _=>bFh _ 65536 w oo oo) ?_;refine aB;refine cM rfl rfl rfl (.nil _) ⟨?_,rfl⟩;rw[Int.mul_comm 16]
 ·rw[if_neg hc];refine aB;exact cM rfl rfl rfl (.nil _) ⟨rfl,rfl⟩
def aE9(W H:Nat)(f:List Int)(y:Int)(far:Nat)(a:Int):Nat→List Int
 | 0=>[]
 | j+1=>aE9 W H f y far a j++hR W H f a (y-far+j)
def sqR(W H:Nat)(f:List Int)(x y:Int)(far:Nat):Nat→List Int
 | 0=>[]
 | i+1=>sqR W H f x y far i++aE9 W H f y far (x-far+i) (2*far+1)
theorem bF8{W H:Nat}{f:List Int}{x y dx dy:Int}(hx : -1000≤x∧x≤1000)(hy : -1000≤y∧y≤1000):nX W H f x y dx dy=hR W H f (x+dx) (y+dy):=by unfold nX hR pV;rw[if_neg (show ¬(x < -1000∨1000<x) by omega),if_neg (show ¬(y < -1000∨1000<y) by omega)]
def smI(φ:Nat→Int):Nat→Int
 | 0=>0
 | n+1=>smI φ n+φ n
theorem bE5(φ ψ:Nat→Int):∀n,smI (fun i=>φ i+ψ i) n=smI φ n+smI ψ n
 | 0=>rfl
 | n+1=>by simp only[smI,bE5 φ ψ n];omega
theorem bE8:∀n,smI (fun _=>0) n=0
 | 0=>rfl
 | n+1=>by simp only[smI,bE8 n];omega
theorem bE7(φ:Nat→Nat→Int)(m:Nat):∀n,smI (fun i=>smI (fun j=>φ i j) m) n=smI (fun j=>smI (fun i=>φ i j) n) m
 | 0=>by simp only[smI,bE8]
 | n+1=>by simp only[smI,bE7 φ m n,bE5]
theorem bE6{φ ψ:Nat→Int}(h:∀i,φ i=ψ i)(n:Nat):smI φ n=smI ψ n:=by rw[show φ=ψ from funext h]
section
variable {W H:Nat} {f:List Int} {x y:Int} {μ:List Int→Int} (h0:μ []=0) (ha:∀a b,μ (a++b)=μ a+μ b)
include h0 ha
theorem bDl(far:Nat)(a:Int):∀j,μ (aE9 W H f y far a j)=smI (fun j=>μ (hR W H f a (y-far+j))) j
 | 0=>h0
 | j+1=>by rw[aE9,ha,bDl far a j];rfl
theorem bE9(far:Nat):∀i,μ (sqR W H f x y far i)=smI (fun i=>smI (fun j=>μ (hR W H f (x-far+i) (y-far+j))) (2*far+1)) i
 | 0=>h0
 | i+1=>by rw[sqR,ha,bE9 far i,bDl h0 ha];rfl
theorem bE2(far:Nat)(dy:Int):∀j,μ (nK W H f x y far dy j)=smI (fun j=>μ (nX W H f x y ((j:Int)-far) dy)) j
 | 0=>h0
 | j+1=>by rw[nK,ha,bE2 far dy j];rfl
theorem bDg(far:Nat):∀i,μ (nD W H f x y far i)=smI (fun i=>smI (fun j=>μ (nX W H f x y ((j:Int)-far) ((i:Int)-far))) (2*far+1)) i
 | 0=>h0
 | i+1=>by rw[nD,ha,bDg far i,bE2 h0 ha];rfl
theorem bDc(hx : -1000≤x∧x≤1000)(hy : -1000≤y∧y≤1000)(far:Nat):μ (sqR W H f x y far (2*far+1))=μ (nD W H f x y far (2*far+1)):=by rw[bE9 h0 ha,bDg h0 ha,bE7];refine bE6 (fun i=>bE6 (fun j=>?_) _) _;rw[bF8 hx hy];congr 2<;>omega
end
theorem bFw{W H:Nat}{f:List Int}{x y:Int}(hx : -1000≤x∧x≤1000)(hy : -1000≤y∧y≤1000)(far:Nat):
  fI (sqR W H f x y far (2*far+1))=fI (nD W H f x y far (2*far+1))∧gG (sqR W H f x y far (2*far+1))=gG (nD W H f x y far (2*far+1))∧(sqR W H f x y far (2*far+1)).length=(nD W H f x y far (2*far+1)).length:=by
 refine⟨bDc rfl aE7 hx hy far,bDc rfl aE5 hx hy far,?_⟩;have:=bDc (μ:=fun l=>((l.length:Nat):Int)) (W:=W) (H:=H) (f:=f) rfl (fun a b=>by simp) hx hy far;omega
theorem bFv{a b:List Int}(h1:fI a=fI b)(h2:gG a=gG b)(h3:a.length=b.length):mI a=mI b:=by unfold mI uN aA7;rw[h1,h2,h3]
theorem bDs{W H:Nat}{f:List Int}(hf:dK f)(a b:Int):(hR W H f a b).length≤1∧∀z∈hR W H f a b,-32768≤z∧z≤32767:=by
 unfold hR;split
 ·exact⟨Nat.le_refl _,fun z hz=>by rw[List.mem_singleton.1 hz];exact xB hf _ _⟩
 ·exact⟨Nat.zero_le _,fun z hz=>by cases hz⟩
theorem bD7{W H:Nat}{f:List Int}(hf:dK f)(y:Int)(far:Nat)(a:Int):∀j,(aE9 W H f y far a j).length≤j∧∀z∈aE9 W H f y far a j,-32768≤z∧z≤32767
 | 0=>⟨Nat.le_refl _,fun z hz=>by cases hz⟩
 | j+1=>by
  obtain⟨h1,h2⟩:=bD7 hf (W:=W) (H:=H) y far a j;obtain⟨h3,h4⟩:=bDs hf (W:=W) (H:=H) a (y-far+j);rw[aE9];refine⟨by rw[List.length_append];omega,fun z hz=>?_⟩;rcases List.mem_append.1 hz with h|h
  ·exact h2 z h
  ·exact h4 z h
theorem bDb{W H:Nat}{f:List Int}(hf:dK f)(x y:Int){far:Nat}(hfar:far≤8):∀i,(sqR W H f x y far i).length≤17*i∧∀z∈sqR W H f x y far i,-32768≤z∧z≤32767
 | 0=>⟨Nat.le_refl _,fun z hz=>by cases hz⟩
 | i+1=>by
  obtain⟨h1,h2⟩:=bDb hf (W:=W) (H:=H) x y hfar i;obtain⟨h3,h4⟩:=bD7 hf (W:=W) (H:=H) y far (x-far+i) (2*far+1);rw[sqR];refine⟨by rw[List.length_append];omega,fun z hz=>?_⟩;rcases List.mem_append.1 hz with h|h
  ·exact h2 z h
  ·exact h4 z h
theorem bG1(l:List Int)(i:Nat)(h:i<l.length):gG (l.take (i+1))=gG (l.take i)+l.getD i 0*l.getD i 0:=by rw[List.take_succ_eq_append_getElem h,aE5];simp[gG,List.getD,List.getElem?_eq_getElem h]
def aUu(W H:Nat)(f:List Int)(x y far:Int):Int×Int:=if x < -1000∨1000<x∨y < -1000∨1000<y then (0,0)else mI (nL W H f x y far)
theorem bFx(W H:Nat)(A:Option Addr)(c:Nat)(f:List Int)(x y far:Int)(w:World)(hr:bF w (aV []) A f.length c 1 (aC .i16 f))(hW:1≤W∧W≤256∧1≤H∧H≤256)(hz:f.length=W*H)(hf:dK f):
  aF prog 62 [.agg #[.int .i64 W,.int .i64 H,.slice A f.length c],.int .i64 x,.int .i64 y,.int .i64 far] [] w (fun v _=>v=.tuple #[.int .i64 (aUu W H f x y far).1,.int .i64 (aUu W H f x y far).2]):=by
 obtain⟨fr,hfr⟩:∃fr:Nat,min (max far 0) 8=(fr:Int):=⟨(min (max far 0) 8).toNat,oo⟩;have hf8:fr≤8:=oo;refine aJ func62 rfl ntmps62 rfl ⟨aE,.nil⟩ (fun n=>?_);simp only[aG];unfold aUu;by_cases hxy:x < -1000∨1000<x∨y < -1000∨1000<y
 ·rw[if_pos hxy];refine aB;all_goals first
   | (exfalso;omega)
   | exact cM rfl rfl rfl (.nil _) rfl
 ·rw[if_neg hxy];unfold nL;rw[hfr,Int.toNat_natCast];have hx : -1000≤x∧x≤1000:=oo;have hy : -1000≤y∧y≤1000:=oo;refine dD (e:=2) (size:=1) ?_;refine aB;all_goals first
   | (exfalso;omega)
   | skip
  all_goals
   rename Nat=>b4
   refine bT (X:=Nat×Option Addr×Nat) (fun q=>q.1≤2*fr+1) (fun q=>[(1,.int .i64 x),(2,.int .i64 y),(4,.pointer (some ⟨b4,0,none⟩)),(10,.int .i64 fr),(11,.slice q.2.1 (sqR W H f x y fr q.1).length q.2.2),(12,.int .i64 (fI (sqR W H f x y fr q.1))),(13,.int .i64 (x-fr+q.1))])
    (fun q=>[.blk b4 28 [.int .i64 W,.int .i64 H,.slice A f.length c],.row (.slice q.2.1 (sqR W H f x y fr q.1).length q.2.2) 2 1 (sqR W H f x y fr q.1).length (aC .i64 (sqR W H f x y fr q.1))]) (fun q=>2*fr+1-q.1) (0,none,0) (Nat.zero_le _) ⟨rfl,rfl,rfl,by first|rfl|(simp[aH];omega),rfl,rfl,by first|rfl|(simp[aH];omega),trivial⟩ (by simp only[sqR,aC,List.map_nil,List.length_nil];exact aA.au) ?_
   rintro⟨i,A1,c1⟩ hi;dsimp only at hi ⊢;rcases Nat.lt_or_ge i (2*fr+1) with h|h
   ·refine aB;refine bT (X:=Nat×Option Addr×Nat) (fun q=>q.1≤2*fr+1) (fun q=>[(1,.int .i64 x),(2,.int .i64 y),(4,.pointer (some ⟨b4,0,none⟩)),(10,.int .i64 fr),(11,.slice q.2.1 (sqR W H f x y fr i++aE9 W H f y fr (x-fr+i) q.1).length q.2.2),(12,.int .i64 (fI (sqR W H f x y fr i++aE9 W H f y fr (x-fr+i) q.1))),(13,.int .i64 (x-fr+i)),(14,.int .i64 (y-fr+q.1))])
     (fun q=>[.blk b4 28 [.int .i64 W,.int .i64 H,.slice A f.length c],.row (.slice q.2.1 (sqR W H f x y fr i++aE9 W H f y fr (x-fr+i) q.1).length q.2.2) 2 1 (sqR W H f x y fr i++aE9 W H f y fr (x-fr+i) q.1).length (aC .i64 (sqR W H f x y fr i++aE9 W H f y fr (x-fr+i) q.1))]) (fun q=>2*fr+1-q.1) (0,A1,c1) (Nat.zero_le _)
     ⟨rfl,rfl,rfl,rfl,by simp[aH,aE9],by simp[aH,aE9],rfl,by simp[aH],trivial⟩ (by simp only[aE9,List.append_nil];exact aA.au) ?_
    rintro⟨j,A2,c2⟩ hj;dsimp only at hj ⊢;obtain⟨q1,q2⟩:=bDb hf (W:=W) (H:=H) x y hf8 i;obtain⟨q3,q4⟩:=bD7 hf (W:=W) (H:=H) y fr (x-fr+i) j;have q5:=bDs hf (W:=W) (H:=H) (x-fr+i) (y-fr+j);have q6:∀z∈sqR W H f x y fr i++aE9 W H f y fr (x-fr+i) j,-32768≤z∧z≤32767:=fun z hz=>(List.mem_append.1 hz).elim (q2 z) (q4 z);have q7:=aBu _ q6;have q8:(sqR W H f x y fr i++aE9 W H f y fr (x-fr+i) j).length≤400:=by rw[List.length_append];omega
    have q9:=xB (W:=W) (H:=H) hf (x-fr+i) (y-fr+j);have eL:sqR W H f x y fr i++aE9 W H f y fr (x-fr+i) (j+1)=(sqR W H f x y fr i++aE9 W H f y fr (x-fr+i) j)++hR W H f (x-fr+i) (y-fr+j):=by rw[aE9,List.append_assoc]
    rcases Nat.lt_or_ge j (2*fr+1) with h'|h'
    ·refine aB;refine bQ rfl rfl rfl (fun w hw=>bE0 W H A c f (x-fr+i) (y-fr+j) w ⟨hr.h.go hw (aD.nil _)⟩ hW hz) ?_;by_cases hc:(jP W H f (x-fr+i) (y-fr+j)).2=0
     ·rw[show hR W H f (x-fr+i) (y-fr+j)=[(jP W H f (x-fr+i) (y-fr+j)).1]from if_pos hc]at eL;rw[hc];generalize sqR W H f x y fr i++aE9 W H f y fr (x-fr+i) j=L at *;generalize (jP W H f (x-fr+i) (y-fr+j)).1=z at *;refine aB;rename_i A3 c3;have es:fI (L++[z])=fI L+z:=by rw[aE7,fI,fI];omega
      exact aN (j+1,A3,c3) (by show j+1≤_;omega) (by show _-(j+1)<_-j;omega) ⟨rfl,rfl,rfl,rfl,by simp only[eL];rfl,by simp only[eL,es];rfl,rfl,by simp[aH];omega,trivial⟩ (by simp only[eL];exact aA.au)
     ·rw[show hR W H f (x-fr+i) (y-fr+j)=[]from if_neg hc,List.append_nil]at eL;refine aB;exact aN (j+1,A2,c2) (by show j+1≤_;omega) (by show _-(j+1)<_-j;omega) ⟨rfl,rfl,rfl,rfl,by simp only[eL];rfl,by simp only[eL];rfl,rfl,by simp[aH];omega,trivial⟩ (by simp only[eL];exact aA.au)
    ·obtain rfl:j=2*fr+1:=oo;refine aB;exact aN (i+1,A2,c2) (by show i+1≤_;omega) (by show _-(i+1)<_-i;omega) ⟨rfl,rfl,rfl,rfl,rfl,rfl,by simp[aH];omega,trivial⟩ (by simp only[sqR];exact aA.au)
   ·obtain rfl:i=2*fr+1:=oo;obtain⟨r1,r2,r3⟩:=bFw (W:=W) (H:=H) (f:=f) hx hy fr;obtain⟨q1,q2⟩:=bDb hf (W:=W) (H:=H) x y hf8 (2*fr+1);rw[← bFv r1 r2 r3];clear r1 r2 r3;generalize sqR W H f x y fr (2*fr+1)=L at *;have hrn:=aNz q2 oo;rcases Nat.eq_zero_or_pos L.length with h0|h0
    ·have e:mI L=(0,0):=if_pos h0;rw[e];refine aB;all_goals first
      | exact cM rfl rfl rfl (.nil _) rfl
      | (exfalso;omega)
    ·have e:mI L=(((gE (uN L):Nat):Int),((L.length:Nat):Int)):=if_neg oo;rw[e];refine aB;all_goals try (exfalso;omega)
     refine bT (X:=Nat) (fun i=>i≤L.length) (fun i=>[(11,.slice A1 L.length c1),(12,.int .i64 (fI L)),(17,.int .i64 L.length),(18,.int .i64 (gG (L.take i)*L.length)),(19,.int .i64 i)])
      (fun _=>[.row (.slice A1 L.length c1) 2 1 L.length (aC .i64 L)]) (fun i=>L.length-i) 0 (Nat.zero_le _) ⟨rfl,rfl,rfl,by simp[aH,gG],rfl,trivial⟩ aA.au ?_
     intro i hi;rcases Nat.lt_or_ge i L.length with h|h
     ·have hz1:=q2 (L.getD i 0) (by rw[List.getD,List.getElem?_eq_getElem h];exact List.getElem_mem h);have es:=bG1 L i h;have hm1:=fU 32768 32768 (a:=L.getD i 0) (b:=L.getD i 0) oo oo;have hm2:=fU 1073741824 289 (a:=L.getD i 0*L.getD i 0) (b:=(L.length:Nat)) oo oo;have hsi:=(aBu (L.take i) (fun z hz=>q2 z (List.mem_of_mem_take hz))).2;rw[List.length_take,Nat.min_eq_left oo]at hsi;have hm3:=fU 310311387136 289 (a:=gG (L.take i)) (b:=(L.length:Nat)) oo oo;have es2:gG (L.take i)*L.length+L.getD i 0*L.getD i 0*L.length=gG (L.take (i+1))*L.length:=by rw[es,Int.add_mul]
      refine aB;refine uI (A:=A1) (m:=L.length) (cc:=c1) oo (fun g hg=>?_);subst hg;refine dL _ [false,true,true,true,true,true,true,true,true,true,true,true,false,false] [0,12,13] (aA.refl _) rfl od bD ?_;refine jG;rw[es2];exact aN (i+1) (by show i+1≤_;omega) (by show _-(i+1)<_-i;omega) ⟨rfl,rfl,rfl,rfl,by simp[aH],trivial⟩ aA.au
     ·obtain rfl:i=L.length:=oo;rw[List.take_length];have hnn:0<((L.length:Nat):Int)*(L.length:Nat):=Int.mul_pos oo oo;obtain⟨x1,x2⟩:=aDz L;have x3:=aB8 x2;have eE:aA7 L=256*(gG L*(L.length:Nat)-fI L*fI L):=by unfold aA7;omega
      rw[eE]at x1;refine aB;refine eX 111 _ rfl (congrArg (Value.int .u64) x1) ?_;refine aB;refine bQ rfl rfl rfl (fun w _=>bFs (uN L) w x2) ?_;refine aB;exact cM rfl rfl rfl (.nil _) rfl
end Go.Proofs.YtpmkboockihdbaaGreat
namespace Go.Proofs.YtpmkboockihdbaaGreat
open Go.RowKit _root_.Go.Proofs.Tryz
theorem bFy(t u:TypeId)(x y:Operand)(a b c d:Int)(ht:t=44):PV prog (.binOp .eql t x y u) [.agg #[.int .i64 a,.int .i64 b],.agg #[.int .i64 c,.int .i64 d]] (.bool (a==c&&b==d)) True:=⟨by
 subst ht;rintro _ ρ ⟨dst,op',ty,pos,aft,gd⟩ rfl h w;obtain⟨h1,h2⟩:=qZ h;have u2:=underlying2;have a2:=Tryz.isAgg2;have z2:=Tryz.sizeOf2;have hS:prog.underlying 44=some (.struct (prog.fieldsOf 44)):=by kernel_rfl
 have hp:prog.stoodInHeld 44=false:=by kernel_rfl
 have hm:prog.eqGuardType prog.depth 44=false:=by kernel_rfl
 simp only[execOp,h1,h2,Sem.run_bind,run_eqGuard_agg w _ _ _ _ _ _ hm,Result.andThen_ok];rw[run_eql_struct,show (10000:Nat)=9999+1 from rfl,run_equalIn_agg w 9999 44 _ _ hS hp];simp only[Program.fieldsOf,underlying44]
 go_simp
 by_cases h1:a=c<;>by_cases h2:b=d<;>simp[h1,h2]⟩
instance (u:TypeId)(x y:Operand)(a b c d:Int):PV prog (.binOp .eql 44 x y u) [.agg #[.int .i64 a,.int .i64 b],.agg #[.int .i64 c,.int .i64 d]] (.bool (a==c&&b==d)) True:=bFy _ u x y a b c d rfl
instance {w0:World}{W:Nat→Prop}{H:List HE}(u:TypeId)(x y:Operand)(a b c d:Int):MS prog w0 W H (.binOp .eql 44 x y u) [.agg #[.int .i64 a,.int .i64 b],.agg #[.int .i64 c,.int .i64 d]] (.bool (a==c&&b==d)) True:=⟨by intro _ F n N ds σ dd ty pos aft gd K Q _ hv hdN h;exact dS aE rfl hdN (fun a w ha _=>aDq (o:=⟨some dd,_,ty,pos,aft,gd⟩) hv trivial a.eval (fun x _ u hu=>ha.eval hu) w) h⟩
instance (priority:=60) {P:Program}{w0:World}{W:Nat→Prop}{H:List HE}(x y:Operand)(t e b q m c sz bs j r r':Nat)(a:Int)(z:Value)(k:IntKind)[hu:aO P t (.slice e)][hI:bH P e sz bs z][ha:uY a j][hm:rN j sz r][hr:nR q r r']:MS P w0 W H (.indexAddr t x y) [.slice (some ⟨b,q,none⟩) m c,.int k a] (.pointer (some ⟨b,r',none⟩)) (j<m):=by have h0:MS P w0 W H (.indexAddr t x y) [.slice (some ⟨b,q,none⟩) m c,.int k (j:Int)] (.pointer (some ⟨b,r',none⟩)) (j<m):=inferInstance;rw[ha.h];exact h0
attribute [local irreducible] OJ J bO Code.wpIn wpListIn Oper.wpIn bodyPost CallsIn aF
instance with14_cv(w h x y st:Int)(A B:Option Addr)(m c mb cb:Nat):CV prog 110 [.agg #[.int .i64 w,.int .i64 h,.int .i64 x,.int .i64 y,.int .i64 st,.slice A m c],.slice B mb cb] (.agg #[.int .i64 w,.int .i64 h,.int .i64 x,.int .i64 y,.int .i64 st,.slice B mb cb]) True:=⟨fun _ w0=>by refine aJ func110 rfl ntmps110 rfl ⟨aE,.nil⟩ (fun n=>?_);simp only[aG];refine aB;refine bI;exact⟨rfl,rfl⟩⟩
end Go.Proofs.YtpmkboockihdbaaGreat
namespace Go.Proofs.YtpmkboockihdbaaGreat
open Go.ChangeAt Go.ChangeShapes Go.Deep Go.Joins Go.RowKit Go.WideShapes _root_.Go.Proofs.Tryz
theorem bEl{P:Program}{f:FuncId}{args:List Value}{w:World}{v0:Value}(h:aF P f args [] w (fun v _=>v=v0)):Calls P f args.toArray w fun e w'=>e=.returned v0∧Below w.heap.size w w':=by refine h.calls.mono ?_;rintro e w' ⟨v,S',rfl,rfl,hst⟩;exact⟨rfl,hst.os,hst.tape,hst.output,hst.size,fun k hk=>hst.old k hk (by rintro⟨x,hx,_⟩;cases hx)⟩
section
variable {H:Type} {enc:TypeId×Value→H} {P:Program} {w:World} {base:Nat} {spare:Nat→Bool} {held:Bool}
theorem bFk{f:Func}{s:ChangeSpec}{apart fresh handsOn again:Bool}{W W':World}{args:Array Value}{v:Value}{ds gs:List (DataW H)}{before pa pv:List MemPlace}
  (hW:DataW.Whole enc P f.params.toList s.vars apart W args.toList ds gs before)
  (hres:∀(b:Nat) (sp:Nat→Bool) (hd:Bool),DataW.TrodAll enc P W' b sp hd f.resultTypes.toList (v.resultList f.resultTypes.size) (s.fn H (ds++gs)).results [])
  (hargs:∀sp:Nat→Bool,(∀p∈before,sp p.block=true)→DataW.TrodAll enc P W' 0 sp true f.params.toList args.toList (s.fn H (ds++gs)).args pa)
  (hvars:∀sp:Nat→Bool,(∀p∈before,sp p.block=true)→DataW.TrodVars enc P W' sp s.vars (s.fn H (ds++gs)).vars pv)
  (hps:before=pa++pv) (hb:Below W.heap.size W W')
  (hok:∀(j:Nat) (t:TypeId) (r:Value),f.resultTypes[j]? = some t→(v.resultList f.resultTypes.size)[j]? = some r→Value.okWide P W' .any 0 t r) :
  s.post enc P f apart fresh handsOn again W args v W':=by
 have hlt:∀p∈before,p.block<W.heap.size:=fun p hp=>hW.lt p hp;have hold:∀p∈before,(fun b=>decide (b<W.heap.size)) p.block=true:=fun p hp=>by simpa using hlt p hp
 refine⟨ds,gs,before,[],pa,pv,hW,hres _ _ _,hargs _ hold,hvars _ hold,World.keptBut_mono (fun p hp=>⟨hp,?_⟩) (hb.frame (·∈before)),fun _=>?_⟩
 ·rw[hps,List.mem_append]at hp;exact Or.inr hp
 ·obtain⟨_,_,_,_,_,hz,hn⟩:=hW;refine⟨hok,_,_,([]++pa)++pv,⟨[]++pa,pv,trodAll_append (hargs _ (fun _ _=>rfl)) (hres _ _ _),hvars _ (fun _ _=>rfl),rfl,?_,?_⟩,?_⟩
  ·intro b off hp;have hin:MemPlace.cell b off∈before:=by rw[hps];simpa using hp
   rw[hb.frozen (hlt _ hin)];exact hz b off hin
  ·intro ha;have:=hn ha;rw[hps]at this;simpa using this
  ·intro p hp _;rw[hps];simpa using hp
theorem bEe(hl:laidOutB P=true){W W':World}{sp':Nat→Bool}: ∀(ts:List TypeId) (vs:List Value) (ds:List (DataW H)) (ps:List MemPlace),(∀t∈ts,P.readableRec t=true∧t<P.types.size) →
  DataW.TrodAll enc P W base (fun _=>true) true ts vs ds ps→(∀p∈ps,W.sameAt W' p)→(∀p∈ps,sp' p.block=true)→DataW.TrodAll enc P W' base sp' true ts vs ds ps
 | [],[],[],ps,_,h,_,_=>h
 | t::ts,v::vs,d::ds,ps,hr,h,hs,hsp=>by
  obtain⟨p,q,h1,h2,rfl⟩:=h;have ht:=hr t aE;exact⟨p,q,Go.WideElems.Trod_stays hl ht.1 ht.2 h1 (fun x hx=>hs x (by simp[hx])) (fun x hx=>hsp x (by simp[hx])),bEe hl ts vs ds q (fun t ht=>hr t (by simp[ht])) h2 (fun x hx=>hs x (by simp[hx])) (fun x hx=>hsp x (by simp[hx])),rfl⟩
 | [],_::_,_,_,_,h,_,_=>h.elim
 | [],[],_::_,_,_,h,_,_=>h.elim
 | _::_,[],_,_,_,h,_,_=>h.elim
 | _::_,_::_,[],_,_,h,_,_=>h.elim
theorem bEd:∀(ts:List TypeId) (vs:List Value) (ds:List (DataW H)) (ps:List MemPlace),DataW.TrodAll enc P w base spare held ts vs ds ps→ds.length=ts.length
 | [],[],[],_,_=>rfl
 | t::ts,v::vs,d::ds,ps,h=>by
  obtain⟨p,q,h1,h2,rfl⟩:=h;rw[List.length_cons,List.length_cons,bEd ts vs ds q h2]
 | [],_::_,_,_,h=>h.elim
 | [],[],_::_,_,h=>h.elim
 | _::_,[],_,_,h=>h.elim
 | _::_,_::_,[],_,h=>h.elim
theorem bF3{f:Func}{s:ChangeSpec}{W W':World}{args:Array Value}{ds gs:List (DataW H)}{before:List MemPlace}{tb:TypeId}(hl:laidOutB P=true)(hub:P.underlying tb=some .bool)
  (hW:DataW.Whole enc P f.params.toList s.vars false W args.toList ds gs before) (hvars:s.vars=[]) (hrt:f.resultTypes=#[tb])
  (hsp:∀es:List (DataW H),es.length=f.params.size→s.fn H es = { results:=[.lit (.bool true)],args:=es })
  (hread:∀t∈f.params.toList,P.readableRec t=true∧t<P.types.size) (hb:Below W.heap.size W W'):s.post enc P f false true false false W args (.bool true) W':=by
 have hW':=hW;obtain⟨p,q,hA,hV,hbe,hfz,hnd⟩:=hW;rw[hvars]at hV;obtain⟨rfl,rfl⟩:=trodVars_none hV;have hlen:=bEd _ _ _ _ hA;have hfn:=hsp ds (by rw[hlen];simp);have hlt:∀x∈p,x.block<W.heap.size:=fun x hx=>hW'.lt x (by rw[hbe];simp[hx]);refine bFk (pa:=p) (pv:=[]) hW' (fun _ _ _=>?_) (fun sp hs=>?_) (fun _ _=>?_) (by simpa using hbe) hb ?_
 ·rw[List.append_nil,hfn,hrt];exact trodAll_mk1 (shut_bool hub true)
 ·rw[List.append_nil,hfn];exact bEe hl _ _ _ _ hread hA (fun x hx=>hb.same (hlt x hx)) (fun x hx=>hs x (by rw[hbe];simp[hx]))
 ·rw[List.append_nil,hfn,hvars];rfl
 ·exact ok_one hrt rfl (okWide_bool_mk hub true)
theorem bDf{k:IntKind}{n:Int}(h:(Lit.int k n).wf=true):aP k n:=by cases k<;>simp[Lit.wf,IntKind.min,IntKind.max,IntKind.signed,IntKind.bits]at h<;>simp only[aP]<;>omega
theorem aPy{r:Reach}{b0:Nat}{t:TypeId}{k:IntKind}{v:Value}{d:DataW H}{ps:List MemPlace}(ht:P.underlying t=some (.int k))(hval:Value.okWide P w r b0 t v)(hd:DataW.Trod enc P w base spare held t v d ps):∃n,v=.int k n∧aP k n:=by obtain⟨n,h1,-,-,h4⟩:=open_int ht hval hd;exact⟨n,h1,bDf h4⟩
theorem bDr{r:Reach}{b0:Nat}{t e:TypeId}{k:IntKind}{v:Value}{d:DataW H}{ps:List MemPlace}(ht:P.underlying t=some (.slice e))(he:P.underlying e=some (.int k))(hC:P.cellsOf e=1)(hv:Value.okWide P w r b0 t v)(h:DataW.Trod enc P w 0 (fun _=>true) true t v d ps):
  ∃(A:Option Addr) (c:Nat) (xs:List Int),v=.slice A xs.length c∧bF w (aV []) A xs.length c 1 (aC k xs)∧∀x∈xs,aP k x:=by
 obtain⟨a0,len,cap,rfl⟩:=okWide_slice ht hv;obtain⟨fuel,hf⟩:=h;have hf':DataW.trod enc P w 0 (fun _=>true) true fuel t [.slice a0 len cap]=some (d,ps):=by simpa [Value.cells] using hf
 rcases open_ints ht he hC hf' with⟨hcs,-⟩ | ⟨a,len',cap',zs,hcs,-,hl,hm,hmm,-,hcell,hwf⟩
 ·simp at hcs;obtain⟨rfl,rfl,rfl⟩:=hcs;exact⟨none,0,[],rfl,⟨Ro.nil _ _ _⟩,aE⟩
 ·simp at hcs hmm;obtain⟨rfl,rfl,rfl⟩:=hcs;have hlen:(zs.take len).length=len:=by rw[List.length_take];omega
  refine⟨some a,cap,zs.take len,by rw[hlen],⟨some a,cap,rfl,oo,hm,aE,fun hpos=>?_⟩,fun x hx=>bDf (hwf x (List.mem_of_mem_take hx))⟩;rw[hlen]at hpos;have hc0:=hcell 0 oo;obtain⟨b,off,spot⟩:=a;have hspot:spot=none:=by simpa [Addr.add] using World.cell?_spot hc0
  subst hspot;have hblt:b<w.heap.size:=by
   rcases Nat.lt_or_ge b w.heap.size with hlt|hge
   ·exact hlt
   ·rw[pJ]at hc0;simp[World.cell?,Array.getElem?_eq_none hge]at hc0
  refine⟨b,off,rfl,hblt,(by rintro⟨x,hx,_⟩;cases hx),fun j u hu=>?_⟩;have hj:j<len:=by have:=(List.getElem?_eq_some_iff.1 hu).1;simpa [hlen] using this
  have:=hcell j oo;rw[pJ]at this;rw[this];simp only[aC,List.getElem?_map,List.getElem?_take,if_pos hj]at hu;rw[List.getElem?_eq_getElem oo]at hu;simp at hu;rw[← hu,List.getD_eq_getElem?_getD,List.getElem?_eq_getElem oo];rfl
end
theorem bFb:laidOutB prog=true:=by kernel_rfl
section
variable {H:Type} {enc:TypeId×Value→H} {P:Program} {w:World} {base:Nat} {spare:Nat→Bool} {held:Bool}
theorem uW.app:∀{ks ls:List IntKind} {cs ds:List Value},uW ks cs→uW ls ds→uW (ks++ls) (cs++ds)
 | [],_,_,_,h,g=>by rw[show _=[]from h];simpa using g
 | k::ks,_,_,_,⟨n,r,e,hn,h⟩,g=>⟨n,r++_,by rw[e];rfl,hn,h.app g⟩
structure aQ1(P:Program)(t:TypeId)(ks:List IntKind):Prop where
 len:P.cellsOf t=ks.length
 h:∀{H:Type} {enc:TypeId×Value→H} {w:World} {base:Nat} {spare:Nat→Bool} {held:Bool} {fuel:Nat} {cs:List Value} {x:DataW H×List MemPlace},DataW.trod enc P w base spare held fuel t cs=some x→uW ks cs
theorem bEs{t:TypeId}{k:IntKind}(ht:P.underlying t=some (.int k))(hc:P.cellsOf t=1):aQ1 P t [k]:=⟨hc,fun h=>by obtain⟨n,rfl,-,hwf⟩:=DataW.trod_int ht h;exact⟨n,[],rfl,bDf hwf,rfl⟩⟩
def aW2(P:Program):List Field→Nat→List (List IntKind)→Prop
 | [],_,kss=>kss=[]
 | f::fs,off,kss=>∃ks r,kss=ks::r∧f.offset=off∧aQ1 P f.type ks∧aW2 P fs (off+ks.length) r
theorem bDq{cs:List Value}: ∀(fs:List Field) (off:Nat) (kss:List (List IntKind)),aW2 P fs off kss→off+kss.flatten.length≤cs.length →
  (∀f∈fs,∃(n:Nat) (x:DataW H×List MemPlace),DataW.trod enc P w base spare held n f.type ((cs.drop f.offset).take (P.cellsOf f.type))=some x)→uW kss.flatten ((cs.drop off).take kss.flatten.length)
 | [],off,kss,h,_,_=>by rw[show kss=[]from h];simp[uW]
 | f::fs,off,_,⟨ks,r,rfl,ho,hk,hr⟩,hl,hf=>by
  obtain⟨n,x,hx⟩:=hf f (List.mem_cons_self ..);have h1:=hk.h hx;rw[ho,hk.len]at h1;rw[List.flatten_cons,List.length_append]at hl ⊢;have h2:=bDq fs (off+ks.length) r hr oo (fun g hg=>hf g (List.mem_cons_of_mem _ hg));have e:(cs.drop off).take (ks.length+r.flatten.length)=(cs.drop off).take ks.length++(cs.drop (off+ks.length)).take r.flatten.length:=by rw[List.take_add,List.drop_drop]
  rw[e];exact h1.app h2
theorem bEu{t:TypeId}{fs:Array Field}(kss:List (List IntKind))(ht:P.underlying t=some (.struct fs))(hf:aW2 P fs.toList 0 kss)(hc:P.cellsOf t=kss.flatten.length):aQ1 P t kss.flatten:=⟨hc,fun {H enc w base spare held fuel cs x} h=>by
 obtain⟨xs,n,-,-,hl,hxl,hat⟩:=DataW.trod_struct ht h;have:=bDq (enc:=enc) (w:=w) (base:=base) (spare:=spare) (held:=held) (cs:=cs) fs.toList 0 kss hf oo (fun f hf=>by
  obtain⟨i,hi,rfl⟩:=List.getElem_of_mem hf;have hi':i<fs.size:=by simpa using hi
  have h1:=hat i fs[i] (Array.getElem?_eq_getElem hi');rw[List.getElem?_eq_getElem (by omega:i<xs.length)]at h1;exact⟨n,_,by simpa using h1⟩)
 rw[List.drop_zero,List.take_of_length_le oo]at this;exact this⟩
theorem bF4{r:Reach}{b0:Nat}{t:TypeId}{fs:Array Field}{ks:List IntKind}{v:Value}{d:DataW H}{ps:List MemPlace}(ht:P.underlying t=some (.struct fs))(hk:aQ1 P t ks)(hv:Value.okWide P w r b0 t v)(h:DataW.Trod enc P w base spare held t v d ps):
  ∃cs:List Value,v=.agg cs.toArray∧uW ks cs:=by
 obtain⟨cs,rfl,hsz⟩:=okWide_struct ht hv;obtain⟨fuel,hf⟩:=h;exact⟨cs.toList,aE,hk.h hf⟩
end
theorem bD6:aQ1 prog 2 [.i64]:=bEs underlying2 (by kernel_rfl)
end Go.Proofs.YtpmkboockihdbaaGreat
namespace Go.Proofs.YtpmkboockihdbaaGreat
open Go.RowKit _root_.Go.Proofs.Tryz
theorem bFl{d s:Int}(hs:0<s):d*d/s*47274+(2*(d*d%s)*47274+s)/(2*s)=cS (d*d*47274) s 2:=by
 rw[vM hs];have h1:=Int.mul_ediv_add_emod (d*d) s;generalize d*d/s=q at *;generalize d*d%s=r at *;rw[← h1];have e:2*((s*q+r)*47274)+s=(2*r*47274+s)+(q*47274)*(2*s):=by
  have e1:(q*47274)*(2*s)=94548*(s*q):=by rw[Int.mul_assoc,Int.mul_left_comm 47274,Int.mul_left_comm q,Int.mul_comm 47274,← Int.mul_assoc q,Int.mul_comm q s];omega
  rw[e1,Int.add_mul];generalize s*q=a;omega
 rw[e,Int.add_mul_ediv_right _ _ oo];omega
theorem bGg{e F:Int}:(2*e*(65536-F)+4294967296)/8589934592=cS (e*(65536-F)) 4294967296 2:=by rw[vM od,Int.mul_assoc];rfl
theorem bF7:∀i,i<16→hL.getD (i+1) 0*hL.getD (i+1) 0≤hL.getD i 0*4611686018427387904∧hL.getD i 0*4611686018427387904<(hL.getD (i+1) 0+1)*(hL.getD (i+1) 0+1):=by decide +kernel
theorem bDu{x st S s:Int}(hs:0<s):(2*st*S+s)/(2*s)=cS (S*st) s 2:=by rw[vM hs,Int.mul_assoc,Int.mul_comm st S]
instance:aC7 mB:=⟨fun a u hu=>by simp[mB]at hu;rcases hu with rfl|rfl|rfl|rfl|rfl|rfl|rfl|rfl|rfl|rfl|rfl|rfl|rfl|rfl|rfl|rfl<;>rfl⟩
attribute [local irreducible] OJ J bO Code.wpIn wpListIn Oper.wpIn bodyPost CallsIn aF
theorem bEp(g:Nat)(s:aL)(a:bR)(w:World)(hown:aZ [.blk g 173 (aI s a)] w)(hL:jS s):
  aF prog 50 [.pointer (some ⟨g,0,none⟩)] [.blk g 173 (aI s a)] w (fun v S'=>v=.agg (mL s.bk).toArray∧S'=[.blk g 173 (aI s a)]):=by
 have i1:=gT hL;have i2:=jU hL;refine aJ func50 rfl ntmps50 rfl hown (fun _=>?_);simp only[aG];refine aB;refine eD (S':=[.blk g 173 (aI s a)]) aA.au ?_;refine cY;exact⟨rfl,rfl⟩
theorem bEv(g:Nat)(s:aL)(a:bR)(ds:List jJ)(w:World)(hown:aZ [.blk g 173 (aI s a)] w)(hL:jS s)(hd:ds.length=s.deeds.length)(hr:bF w (aV [.blk g 173 (aI s a)]) a.Ad ds.length a.cd 16 (aR mB ds))(hb:ds.length≤100000000)(hh:fM s.mode=true):
  aF prog 24 [.pointer (some ⟨g,0,none⟩)] [.blk g 173 (aI s a)] w
   (fun v S'=>∃A1 c1,v=.slice A1 ds.length c1∧S'=[bK A1 c1 ds,.blk g 173 (aI s a)]):=by
 have i1:=gT hL;have i2:=jU hL;have hG:=fun w ho=>aL4 g s a w ho hL;rw[hh]at hG;rw[hd]at hr ⊢;refine aJ func24 rfl ntmps24 rfl hown (fun _=>?_);simp only[aG];refine aB;refine lf rfl rfl rfl (S:=[.blk g 173 (aI s a)]) (fun w hw ho=>hG w ho) ?_;rintro v S' ⟨rfl,rfl⟩;rw[if_pos rfl];refine aB;rename_i A1 c1;exact aK (S':=[bK A1 c1 ds,.blk g 173 (aI s a)]) rfl rfl aA.au ⟨A1,c1,by rw[hd],rfl⟩
def f27:List Int:=(List.range 576).map fun i=>((i*i%401:Nat):Int)
def c27:dJ:=⟨5000,1048576,0,1048576,255,640,4,3,8,3,⟨3000,400,5⟩,2,256,64,2,0,1,1,1,500,20⟩
def z27(i:Nat):Int:=f27.getD (9*24+9+i) 0*16
def aG8:List jH:=⟨5,1,1,1,0,0⟩::((List.range 3).flatMap fun (i:Nat)=>([⟨3,3*(i:Int)+2,10,z27 i+800,0,0⟩,⟨2,3*(i:Int)+3,10,800,0,0⟩,⟨1,3*(i:Int)+4,10,256,0,0⟩]:List jH))
def aDe(k:Nat):aL:=(aG8.take k).foldl (fun s x=>(jW 24 24 f27 s x).1) (kV c27 2048 2048)
theorem bEf:(aDe 1).mode=1∧(jW 24 24 f27 (kV c27 2048 2048) (aG8.getD 0 default)).2.length=1:=by decide +kernel
theorem bDd{k:Nat}(h:k<10):aDe (k+1)=(jW 24 24 f27 (aDe k) (aG8.getD k default)).1:=by rcases(show k=0∨k=1∨k=2∨k=3∨k=4∨k=5∨k=6∨k=7∨k=8∨k=9 by omega) with rfl|rfl|rfl|rfl|rfl|rfl|rfl|rfl|rfl|rfl<;>rfl
theorem bGd:(aDe 10).mode=2∧3<(aDe 10).deeds.length∧5<(aDe 10).modes.length∧(aDe 10).x=2816∧(aDe 10).y=2048∧0<(aDe 10).bk.b∧qB (aDe 10)=0:=by decide +kernel
theorem aQ9:oR c27=0:=by decide +kernel
theorem bDo:f27.length=576∧∀x∈f27,-32768≤x∧x≤32767:=by decide +kernel
instance conf_cv:CV prog 49 [.int .u8 20,.int .u8 0,.int .u8 7,.int .u8 2] (.agg (qP c27).toArray) True:=⟨fun _ w=>by have iL:xZ [(0,4),(4,6),(10,3),(13,1),(14,1),(15,1),(16,1),(17,1),(18,1),(19,1),(20,1),(21,1),(22,1)] [.int .u32 0,.int .i64 0,.int .i64 0,.int .i64 0,.int .i64 0,.int .i64 0,.int .i64 0,.int .i64 0,.int .i64 0,.int .i64 0,.int .i64 0,.int .i64 0,.int .i64 0,.int .i64 0,.int .i64 0,.int .i64 0,.int .i64 0,.int .i64 0,.int .i64 0,.int .i64 0,.int .i64 0,.int .i64 0,.int .i64 0] [(0,.agg #[.int .u32 5000,.int .i64 1048576,.int .i64 0,.int .i64 1048576]),(1,.agg #[.int .i64 255,.int .i64 640,.int .i64 4,.int .i64 3,.int .i64 (1+7%30),.int .i64 (1+2%4)]),(2,.agg #[.int .i64 3000,.int .i64 400,.int .i64 5]),(3,.int .i64 2),(4,.int .i64 256),(5,.int .i64 64),(6,.int .i64 (2+0%5)),(7,.int .i64 0),(8,.int .i64 1),(9,.int .i64 1),(10,.int .i64 1),(11,.int .i64 500),(12,.int .i64 (20%86))] (qP c27):=⟨by rfl⟩;have iO:jK [.int .u32 0,.int .i64 0,.int .i64 0,.int .i64 0,.int .i64 0,.int .i64 0,.int .i64 0,.int .i64 0,.int .i64 0,.int .i64 0,.int .i64 0,.int .i64 0,.int .i64 0,.int .i64 0,.int .i64 0,.int .i64 0,.int .i64 0,.int .i64 0,.int .i64 0,.int .i64 0,.int .i64 0,.int .i64 0,.int .i64 0] 0 (qP c27) (qP c27):=⟨by exact⟨rfl,od⟩⟩;refine aJ func49 rfl ntmps49 rfl ⟨aE,.nil⟩ (fun _=>?_);simp only[aG];refine aB;refine bI;exact⟨rfl,rfl⟩⟩
def aIr:Nat→List Int
 | 0=>[]
 | i+1=>aIr i++[(i:Int)*(i:Int)%401]
theorem bDp:∀n,(aIr n).length=n
 | 0=>rfl
 | n+1=>by rw[aIr,List.length_append,bDp n];rfl
theorem bF0:aIr 576=f27:=by decide +kernel
theorem bDk:oR aCs=2:=by decide
theorem bF5:¬pI [] 0:=by
 rintro(⟨h,-⟩ | ⟨h,-⟩ | ⟨h,-⟩)
 ·exact h rfl
 ·exact absurd h bD
 ·exact absurd h bD
theorem bF2:∀i,i<3→aG8.getD (3*i+1) default=⟨3,((3*i+1:Nat):Int)+1,10,f27.getD (225+i) 0*16+800,0,0⟩∧aG8.getD (3*i+2) default=⟨2,((3*i+1:Nat):Int)+2,10,800,0,0⟩∧aG8.getD (3*i+3) default=⟨1,((3*i+1:Nat):Int)+3,10,256,0,0⟩:=by intro i hi;rcases(show i=0∨i=1∨i=2 by omega) with rfl|rfl|rfl<;>exact⟨rfl,rfl,rfl⟩
theorem bGe:∃x:jH,(jW 24 24 f27 (kV c27 2048 2048) (aG8.getD 0 default)).2=[x]∧x.a=1:=by
 obtain⟨h1,h2⟩:=bEf;obtain⟨-,h3⟩:=bBs (W:=24) (H:=24) (f:=f27) (kV c27 2048 2048) (aG8.getD 0 default);have h4:(aDe 1).mode=(jW 24 24 f27 (kV c27 2048 2048) (aG8.getD 0 default)).1.mode:=rfl;rw[h4]at h1;rcases h3 with h|h | ⟨c,h,-⟩
 ·rw[h]at h2;cases h2
 ·exact⟨_,h,h1⟩
 ·rw[h]at h2;cases h2
theorem bGc:(cP { kV c27 0 0 with mode:=4 }).2=[⟨7,1,0,4,0,0⟩]:=by rfl
theorem bDa{k s t a b c:Int}(h1:aP .i64 k)(h2:aP .u16 s)(h3:aP .u32 t)(h4:aP .i32 a)(h5:aP .i32 b)(h6:aP .i32 c):(⟨k,s,t,a,b,c⟩:jH).ok:=⟨h1,h2,h3,h4,h5,h6⟩
theorem bG4(g k:Nat)(s:aL)(a:bR)(x:jH)(w:World)(hown:aZ [.blk g 173 (aI s a)] w)(hN:cX s k)(hk:k≤16777217)(hm:s.mode=4)(hr:bF w (aV [.blk g 173 (aI s a)]) a.Ag s.g.p.length a.cg 1 (aC .i64 s.g.p)):
  aF prog 21 [.pointer (some ⟨g,0,none⟩),.agg (dR x).toArray] [.blk g 173 (aI s a)] w (fun v S'=>∃A5 c5,v=.slice A5 (cP s).2.length c5∧S'=[.row (.slice A5 (cP s).2.length c5) 67 6 (cP s).2.length (aR dR (cP s).2),.blk g 173 (aI (cP s).1 a)]):=by
 have i1:=gT hN.nvl;have i2:=jU hN.nvl;refine aJ func21 rfl ntmps21 rfl hown (fun _=>?_);simp only[aG];have iM4:∀w0 W H t u a b,MS prog w0 W H (.binOp .eql t a b u) [.int .i64 s.mode,.int .i64 4] (.bool true) True:=fun _ _ _ _ _ _ _=>bM inferInstance trivial (congrArg Value.bool (by simp[hm]));refine aB;refine lf rfl rfl rfl (S:=[.blk g 173 (aI s a)]) (fun w hw ho=>uR g k s a w ho hN hk ⟨hr.h.go hw aD.au⟩) ?_;rintro v S' ⟨So,⟨A5,c5,rfl,rfl⟩,rfl⟩;simp only[List.cons_append,List.nil_append];refine aB;exact aK rfl rfl aA.au ⟨A5,c5,rfl,rfl⟩
theorem bGi(w:World):aF prog 10 [] [] w (fun v S'=>v=.bool true∧S'=[]):=by
 have hlz:=bDo.1;have hcb:2≤24∧24≤256∧2≤24∧24≤256∧1≤30∧30≤1000:=oo;have hi16:dK f27:=aLf bD;refine aJ func10 rfl ntmps10 rfl ⟨aE,.nil⟩ (fun n=>?_);simp only[aG];refine dD (e:=121) (size:=1) ?_;refine aB;rename_i b1;refine aAu (X:=Option Addr×Nat) (fun _=>True) (fun q=>[(1,.pointer (some ⟨b1,0,none⟩))]) (fun q=>[.blk b1 30 [.int .i64 24,.int .i64 24,.slice q.1 f27.length q.2,.int .i64 30,.int .i32 0,.int .i32 0],.row (.slice q.1 f27.length q.2) 121 1 f27.length (aC .i16 f27)]) ?_ ?_
 ·refine bT (X:=Nat×Option Addr×Nat) (fun q=>q.1≤576) (fun q=>[(1,.pointer (some ⟨b1,0,none⟩)),(2,.int .i64 q.1)])
   (fun q=>[.blk b1 30 [.int .i64 24,.int .i64 24,.slice q.2.1 (aIr q.1).length q.2.2,.int .i64 30,.int .i32 0,.int .i32 0],.row (.slice q.2.1 (aIr q.1).length q.2.2) 121 1 (aIr q.1).length (aC .i16 (aIr q.1))]) (fun q=>576-q.1) (0,none,0) (Nat.zero_le _) ⟨rfl,rfl,trivial⟩ (by simp only[aIr,aC,List.map_nil,List.length_nil];exact aA.au) ?_
  rintro⟨i,A1,c1⟩ hi;dsimp only at hi ⊢;have hwl:=bDp i;rcases Nat.lt_or_ge i 576 with h|h
  ·have e:aIr (i+1)=aIr i++[(i:Int)*(i:Int)%401]:=rfl;have h1:=fU 576 576 (a:=(i:Int)) (b:=(i:Int)) oo oo;have h2:=Int.mul_nonneg (show 0≤(i:Int) by omega) (show 0≤(i:Int) by omega);refine aB;rename_i A2 c2;refine aN (i+1,A2,c2) h (by show 576-(i+1)<576-i;omega) ⟨rfl,by simp[aH],trivial⟩ ?_;simp only[e];exact aA.au
  ·obtain rfl:i=576:=oo;rw[bF0];refine aB;exact aN (A1,c1) trivial trivial ⟨rfl,trivial⟩ aA.au
 rintro⟨Af,cf⟩ -;dsimp only;refine aB;refine lf rfl rfl rfl (S:=[]) (fun w hw ho=>aRj 24 24 30 Af cf f27 0 0 w ⟨Ro.row hw (aD.nil _) (by refine bV)⟩ hcb (by rw[hlz]) hi16 od od) ?_;rintro v S' ⟨Ab,cb,rfl,rfl⟩;have hF:=aF9 (ox:=0) (oy:=0) hcb (show f27.length=24*24 by rw[hlz]) hi16 (by omega:1≤8∧8≤32);have hget:=aJv (ox:=0) (oy:=0) hcb (show f27.length=24*24 by rw[hlz]) hi16;obtain⟨-,h2,h3,-,-,-⟩:=aAw (ox:=0) (oy:=0) (z:=f27) (W:=24) (H:=24) (cell:=30) oo;generalize fR 24 24 30 0 0 f27=bb at *;have hu:=hF.u8;have hln:=hF.len;refine aB;rename_i b4;refine lf rfl rfl rfl (S:=[]) (fun w hw ho=>aGv Ab cb bb c27 2048 2048 w ⟨Ro.row hw (aD.nil _) (by refine bV)⟩ hu hln) ?_;rintro v S' (⟨h,-⟩ | ⟨-,g,s0,a0,T,rfl,rfl,ptr,ha,hT⟩)
 ·exact absurd aQ9 h
 have hI:=aX7 (f:=f27) aQ9 (x:=2048) (y:=2048) (by exact⟨od,od⟩) hF ha hT;rcases hT with⟨rfl,-,-,K,hys,hrm,-,rfl⟩ | ⟨-,-,-,⟨code,hne,h⟩ | ⟨-,h⟩⟩
 rotate_left
 ·exact absurd (h.one hget) hne
 ·exact absurd h od
 refine aB;refine lf rfl rfl rfl (S:=[]) (fun w hw ho=>aGv none 0 [] c27 0 0 w ⟨Ro.nil _ _ _⟩ (fun _ h=>absurd h aE) od) ?_;rintro v S' (⟨h,-⟩ | ⟨-,gm,sm,am,Tm,rfl,rfl,ptm,hma,⟨-,h,-⟩ | ⟨hsm,-,rfl,-⟩⟩)
 ·exact absurd aQ9 h
 ·exact absurd h bF5
 refine aB;refine lf rfl rfl rfl (S:=[]) (fun w hw ho=>aGv Ab cb bb aCs 0 0 w ⟨Ro.row hw (aD.nil _) (by refine bV)⟩ hu hln) ?_;rintro v S' (⟨-,rfl,rfl⟩ | ⟨h,-⟩)
 rotate_left
 ·exact absurd h (by rw[bDk];decide)
 rw[bDk];have hmN:cX sm 0:=by rw[hsm];exact aMk aQ9 ⟨od,od⟩
 have hm4:sm.mode=4:=by rw[hsm]
 have hmg:am.Ag=none∧am.cg=0∧sm.g.p=[]:=by rw[hma,hsm];exact⟨rfl,rfl,rfl⟩
 have hbad:(cP sm).2=[⟨7,1,0,4,0,0⟩]:=by rw[hsm];exact bGc
 have hm44:(cP sm).1.mode=4:=hm4;have hmL:jS (cP sm).1:=⟨hmN.nvl.pl,hmN.nvl.wl⟩;refine aB;refine lf rfl rfl rfl (S:=[.blk gm 173 (aI sm am)]) (fun w hw ho=>bG4 gm 0 sm am ⟨5,0,0,1,0,0⟩ w ho hmN od hm4 (by rw[hmg.1,hmg.2.1,hmg.2.2];exact⟨Ro.nil _ _ _⟩)) ?_;rintro v S' ⟨A6,c6,rfl,rfl⟩;rw[hbad];clear hsm hma hmg hbad hmN hm4;generalize (cP sm).1=s6 at *;refine aB;have TK:=fun (w:World) (k:Nat) (s:aL) (a:bR) (ds:List jJ) (x1 x2:gJ) (T:List HE) (x:jH) (b:Int) (ho:aZ (nB g s a ds x1 x2 T) w) (hI:uZ bb f27 k b s a ds x1 x2 T) (hx:x.ok) (hk:k≤16777214) (hb:b≤200000000000000000)=>bC0 bb f27 g k s a ds x1 x2 T x b w ho hI hx hk hb;rw[h2,h3]at TK;obtain⟨xo,hxo,hxa⟩:=bGe;refine kF (H':=.row (.slice A6 1 c6) 67 6 1 [.int .i64 7,.int .u16 1,.int .u32 0,.int .i32 4,.int .i32 0,.int .i32 0]::.blk gm 173 (aI s6 am)::.blk b4 52 (qP c27)::.blk b1 30 [.int .i64 24,.int .i64 24,.slice Af f27.length cf,.int .i64 30,.int .i32 0,.int .i32 0]::.row (.slice Af f27.length cf) 121 1 f27.length (aC .i16 f27)::nB g (kV c27 2048 2048) a0 [] (none,0,[]) (none,0,[]) (K.H (rD 8))) (aA.cons (.here _ _) (aA.cons (.here _ _) (aA.cons (.there _ (.there _ (.there _ (.there _ (.there _ (.there _ (.there _ (.there _ (.there _ (.there _ (.there _ (.there _ (.there _ (.there _ (.there _ (.here _ _)))))))))))))))) (aA.cons (.there _ (.there _ (.there _ (.there _ (.there _ (.there _ (.there _ (.there _ (.there _ (.there _ (.there _ (.there _ (.there _ (.there _ (.there _ (.there _ (.here _ _))))))))))))))))) (aA.cons (.there _ (.there _ (.there _ (.there _ (.there _ (.there _ (.there _ (.there _ (.there _ (.there _ (.there _ (.there _ (.there _ (.there _ (.there _ (.there _ (.here _ _))))))))))))))))) (aA.cons (.there _ (.there _ (.there _ (.there _ (.there _ (.here _ _)))))) (aA.cons (.there _ (.there _ (.there _ (.there _ (.there _ (.here _ _)))))) (aA.cons (.there _ (.there _ (.there _ (.there _ (.there _ (.here _ _)))))) (aA.cons (.there _ (.there _ (.there _ (.there _ (.there _ (.here _ _)))))) (aA.cons (.there _ (.there _ (.there _ (.there _ (.there _ (.here _ _)))))) (aA.cons (.there _ (.there _ (.there _ (.there _ (.there _ (.here _ _)))))) (aA.cons (.there _ (.there _ (.there _ (.there _ (.there _ (.here _ _)))))) (aA.cons (.there _ (.there _ (.there _ (.there _ (.there _ (.here _ _)))))) (aA.cons (.there _ (.there _ (.there _ (.there _ (.there _ (.here _ _)))))) (aA.cons (.there _ (.there _ (.there _ (.there _ (.there _ (.here _ _)))))) (aA.nil _)))))))))))))))) ?_;generalize K.H (rD 8)=T0 at *;refine aB;refine fS (S:=nB g (kV c27 2048 2048) a0 [] (none,0,[]) (none,0,[]) T0) rfl rfl (aD.preT _ [_,_,_,_,_]) rfl (fun w hw ho=>TK w 0 _ a0 [] _ _ T0 ⟨5,1,1,1,0,0⟩ 0 ho hI ⟨od,od,od,od,od,od⟩ od od) ?_;rintro v S' ⟨So,a1,ds1,y1,y2,T1,⟨A5,c5,rfl,rfl⟩,rfl,hI1⟩;rw[show (jW 24 24 f27 (kV c27 2048 2048) ⟨5,1,1,1,0,0⟩).2=[xo]from hxo];rw[show (jW 24 24 f27 (kV c27 2048 2048) ⟨5,1,1,1,0,0⟩).1=aDe 1 from rfl]at hI1 ⊢;refine xC ?_;simp only[List.cons_append,List.nil_append];have hmd1:=bEf.1;refine aB;refine lf rfl rfl rfl (S:=[.blk g 173 (aI (aDe 1) a1)]) (fun w hw ho=>aGp g (aDe 1) a1 w ho hI1.ok.nvl) ?_;rintro v S' ⟨rfl,rfl⟩;rw[hmd1];refine aB;refine aAu (X:=bR×List jJ×gJ×gJ×List HE) (fun q=>uZ bb f27 10 60000000 (aDe 10) q.1 q.2.1 q.2.2.1 q.2.2.2.1 q.2.2.2.2) (fun _=>[(4,.pointer (some ⟨b4,0,none⟩)),(5,.pointer (some ⟨g,0,none⟩)),(6,.int .i64 0),(7,.pointer (some ⟨gm,0,none⟩)),(8,.int .i64 0),(10,.int .i64 2),(11,.slice A6 1 c6),(12,.slice A5 1 c5),(13,.int .i64 1)])
  (fun q=>.row (.slice A6 1 c6) 67 6 1 [.int .i64 7,.int .u16 1,.int .u32 0,.int .i32 4,.int .i32 0,.int .i32 0]::.blk gm 173 (aI s6 am)::.blk b4 52 (qP c27)::.blk b1 30 [.int .i64 24,.int .i64 24,.slice Af f27.length cf,.int .i64 30,.int .i32 0,.int .i32 0]::.row (.slice Af f27.length cf) 121 1 f27.length (aC .i16 f27)::.row (.slice A5 1 c5) 67 6 1 (dR xo)::nB g (aDe 10) q.1 q.2.1 q.2.2.1 q.2.2.2.1 q.2.2.2.2) ?_ ?_
 ·refine bT (X:=Nat×bR×List jJ×gJ×gJ×List HE) (fun q=>q.1≤3∧uZ bb f27 (3*q.1+1) (6000000*((3*q.1+1:Nat):Int)) (aDe (3*q.1+1)) q.2.1 q.2.2.1 q.2.2.2.1 q.2.2.2.2.1 q.2.2.2.2.2)
   (fun q=>[(1,.pointer (some ⟨b1,0,none⟩)),(4,.pointer (some ⟨b4,0,none⟩)),(5,.pointer (some ⟨g,0,none⟩)),(6,.int .i64 0),(7,.pointer (some ⟨gm,0,none⟩)),(8,.int .i64 0),(10,.int .i64 2),(11,.slice A6 1 c6),(12,.slice A5 1 c5),(13,.int .i64 1),(14,.int .u16 ((3*q.1+1:Nat):Int)),(15,.int .i64 q.1)])
   (fun q=>.row (.slice A6 1 c6) 67 6 1 [.int .i64 7,.int .u16 1,.int .u32 0,.int .i32 4,.int .i32 0,.int .i32 0]::.blk gm 173 (aI s6 am)::.blk b4 52 (qP c27)::.blk b1 30 [.int .i64 24,.int .i64 24,.slice Af f27.length cf,.int .i64 30,.int .i32 0,.int .i32 0]::.row (.slice Af f27.length cf) 121 1 f27.length (aC .i16 f27)::.row (.slice A5 1 c5) 67 6 1 (dR xo)::nB g (aDe (3*q.1+1)) q.2.1 q.2.2.1 q.2.2.2.1 q.2.2.2.2.1 q.2.2.2.2.2) (fun q=>3-q.1) (0,a1,ds1,y1,y2,T1) ⟨Nat.zero_le _,hI1⟩ ⟨rfl,rfl,rfl,rfl,rfl,rfl,rfl,rfl,rfl,rfl,rfl,rfl,trivial⟩ (aA.appT (S:=[_,_,_,_,_,_,_,_,_,_,_,_]) (H:=[_,_,_,_,_,_,_,_,_,_,_,_]) T1 (aA.cons (.there _ (.here _ _)) (aA.cons (.there _ (.here _ _)) (aA.cons (.there _ (.here _ _)) (aA.cons (.there _ (.here _ _)) (aA.cons (.there _ (.here _ _)) (aA.cons (.there _ (.here _ _)) (aA.cons (.there _ (.here _ _)) (aA.cons (.there _ (.here _ _)) (aA.cons (.here _ _) (aA.cons (.here _ _) (aA.cons (.here _ _) (aA.cons (.here _ _) (aA.nil _)))))))))))))) ?_
  rintro⟨i,a0,d0,p0,q0,t0⟩ ⟨hi,hI0⟩;dsimp only at hi hI0 ⊢;rcases Nat.lt_or_ge i 3 with h|h
  ·obtain⟨e1,e2,e3⟩:=bF2 i h;have s1:aDe (3*i+2)=(jW 24 24 f27 (aDe (3*i+1)) (aG8.getD (3*i+1) default)).1:=bDd (k:=3*i+1) oo;have s2:aDe (3*i+3)=(jW 24 24 f27 (aDe (3*i+2)) (aG8.getD (3*i+2) default)).1:=bDd (k:=3*i+2) oo;have s3:aDe (3*i+4)=(jW 24 24 f27 (aDe (3*i+3)) (aG8.getD (3*i+3) default)).1:=bDd (k:=3*i+3) oo;rw[e1]at s1;rw[e2]at s2;rw[e3]at s3;have hzz : -32768≤f27.getD (225+i) 0∧f27.getD (225+i) 0≤32767:=by have hlt:225+i<f27.length:=oo;rw[List.getD_eq_getElem?_getD,List.getElem?_eq_getElem hlt];exact bDo.2 _ (List.getElem_mem hlt)
   have iA:∀w0 W H t u a b,MS prog w0 W H (.binOp .add t a b u) [.int .i64 225,.int .i64 (i:Int)] (.int .i64 ((225+i:Nat):Int)) True:=fun _ _ _ _ _ _ _=>bM inferInstance (by show (-9223372036854775808:Int)≤_∧_≤(9223372036854775807:Int);omega) (congrArg (Value.int .i64) (by push_cast;rfl));have hx1:(⟨3,((3*i+1:Nat):Int)+1,10,f27.getD (225+i) 0*16+800,0,0⟩:jH).ok:=bDa od (by show (0:Int)≤_∧_≤(65535:Int);omega) od (by show (-2147483648:Int)≤_∧_≤(2147483647:Int);omega) od od;have hx2:(⟨2,((3*i+1:Nat):Int)+2,10,800,0,0⟩:jH).ok:=bDa od (by show (0:Int)≤_∧_≤(65535:Int);omega) od od od od;have hx3:(⟨1,((3*i+1:Nat):Int)+3,10,256,0,0⟩:jH).ok:=bDa od (by show (0:Int)≤_∧_≤(65535:Int);omega) od od od od;refine aB;refine fS (S:=nB g (aDe (3*i+1)) a0 d0 p0 q0 t0) rfl rfl (aD.preT _ [_,_,_,_,_,_]) rfl (fun w hw ho=>TK w (3*i+1) _ a0 d0 p0 q0 t0 ⟨3,((3*i+1:Nat):Int)+1,10,f27.getD (225+i) 0*16+800,0,0⟩ (6000000*((3*i+1:Nat):Int)) ho hI0 hx1 oo oo) ?_;rintro v S' ⟨So,a2,d2,p2,q2,t2,⟨A20,c20,rfl,rfl⟩,rfl,hI2⟩;rw[← s1]at hI2 ⊢;refine xC ?_;simp only[List.cons_append,List.nil_append];have hI2:uZ bb f27 (3*i+2) (6000000*((3*i+2:Nat):Int)) (aDe (3*i+2)) a2 d2 p2 q2 t2:=⟨hI2.ok,hI2.near,hI2.dl,hI2.g,hI2.n,hI2.ca.mono rfl oo⟩;refine aB;refine fS (S:=nB g (aDe (3*i+2)) a2 d2 p2 q2 t2) rfl rfl (aD.preT _ [_,_,_,_,_,_,_]) rfl (fun w hw ho=>TK w (3*i+2) _ a2 d2 p2 q2 t2 ⟨2,((3*i+1:Nat):Int)+2,10,800,0,0⟩ (6000000*((3*i+2:Nat):Int)) ho hI2 hx2 oo oo) ?_;rintro v S' ⟨So,a3,d3,p3,q3,t3,⟨A30,c30,rfl,rfl⟩,rfl,hI3⟩;rw[← s2]at hI3 ⊢;refine xC ?_;simp only[List.cons_append,List.nil_append];have hI3:uZ bb f27 (3*i+3) (6000000*((3*i+3:Nat):Int)) (aDe (3*i+3)) a3 d3 p3 q3 t3:=⟨hI3.ok,hI3.near,hI3.dl,hI3.g,hI3.n,hI3.ca.mono rfl oo⟩;refine aB;refine fS (S:=nB g (aDe (3*i+3)) a3 d3 p3 q3 t3) rfl rfl (aD.preT _ [_,_,_,_,_,_,_,_]) rfl (fun w hw ho=>TK w (3*i+3) _ a3 d3 p3 q3 t3 ⟨1,((3*i+1:Nat):Int)+3,10,256,0,0⟩ (6000000*((3*i+3:Nat):Int)) ho hI3 hx3 oo oo) ?_;rintro v S' ⟨So,a4,d4,p4,q4,t4,⟨A40,c40,rfl,rfl⟩,rfl,hI4⟩;rw[← s3]at hI4 ⊢;refine xC ?_;simp only[List.cons_append,List.nil_append];have hI4:uZ bb f27 (3*(i+1)+1) (6000000*((3*(i+1)+1:Nat):Int)) (aDe (3*i+4)) a4 d4 p4 q4 t4:=⟨hI4.ok,hI4.near,hI4.dl,hI4.g,hI4.n,hI4.ca.mono rfl oo⟩;refine aB;exact aN (i+1,a4,d4,p4,q4,t4) ⟨h,hI4⟩ (by show 3-(i+1)<3-i;omega) ⟨rfl,rfl,rfl,rfl,rfl,rfl,rfl,rfl,rfl,rfl,by simp[aH];omega,by simp[aH],trivial⟩ (.cons (.here _ _) (.cons (.here _ _) (.cons (.here _ _) (.cons (.here _ _) (.cons (.here _ _) (.cons (.here _ _) (.skip (.skip (.skip (.refl _) _) _) _)))))))
  ·obtain rfl:i=3:=oo;refine aB;exact aN (a0,d0,p0,q0,t0) hI0 trivial ⟨rfl,rfl,rfl,rfl,rfl,rfl,rfl,rfl,rfl,trivial⟩ (.refl _)
 rintro⟨a9,d9,p9,q9,t9⟩ hI9;dsimp only at hI9 ⊢;obtain⟨v1,v2,v3,v4,v5,v6,v7⟩:=bGd;have hh:fM (aDe 10).mode=true:=by rw[v1];rfl
 generalize aDe 10=s9 at *;have hN:=hI9.ok;have hL9:=hN.nvl;have hil:=hN.len;have hdl9:=hN.dl;have hG9:=fun w ho=>aL4 g s9 a9 w ho hL9;rw[hh,if_pos rfl]at hG9;obtain⟨hgo,hfr⟩:=hN.g hh;refine aB;refine lf rfl rfl rfl (S:=[.blk g 173 (aI s9 a9)]) (fun w hw ho=>hG9 w ho) ?_;rintro v S' ⟨rfl,rfl⟩;refine aB;refine lf rfl rfl rfl (S:=[.blk g 173 (aI s9 a9)]) (fun w hw ho=>aV6 g s9 a9 w ho hL9 ⟨Ro.row hw aD.au (by refine bV)⟩ ⟨Ro.row hw aD.au (by refine bV)⟩ oo) ?_;rintro v S' ⟨A1,c1,A2,c2,rfl,rfl⟩;have iXa:∀w0 W H t u a b,MS prog w0 W H (.binOp .eql t a b u) [.int .i32 xo.a,.int .i32 1] (.bool true) True:=fun _ _ _ _ _ _ _=>bM inferInstance trivial (congrArg Value.bool (by simp[hxa]));have hdd:=hI9.dl;have iDd:∀w0 W H t u a b,MS prog w0 W H (.binOp .gtr t a b u) [.int .i64 (d9.length:Int),.int .i64 3] (.bool true) True:=fun _ _ _ _ _ _ _=>bM inferInstance trivial (congrArg Value.bool (by simp;omega));have iMd:∀w0 W H t u a b,MS prog w0 W H (.binOp .gtr t a b u) [.int .i64 (s9.modes.length:Int),.int .i64 5] (.bool true) True:=fun _ _ _ _ _ _ _=>bM inferInstance trivial (congrArg Value.bool (by simp;omega));have iBk:∀w0 W H t u a b,MS prog w0 W H (.binOp .gtr t a b u) [.int .i64 s9.bk.b,.int .i64 0] (.bool true) True:=fun _ _ _ _ _ _ _=>bM inferInstance trivial (congrArg Value.bool (by simp;omega));have iCk:CV prog 16 [.agg (qP c27).toArray] (.int .i64 0) True:=⟨fun _ w=>by have:=(navcheck_cv c27).h trivial w;rwa [aQ9]at this⟩;refine aB;refine lf rfl rfl rfl (S:=[.blk gm 173 (aI s6 am)]) (fun w hw ho=>aGp gm s6 am w ho hmL) ?_;rintro v S' ⟨rfl,rfl⟩;rw[hm44];refine aB;refine lf rfl rfl rfl (S:=[.blk g 173 (aI s9 a9)]) (fun w hw ho=>aGp g s9 a9 w ho hL9) ?_;rintro v S' ⟨rfl,rfl⟩;rw[v1];refine aB;refine bQ rfl rfl rfl (fun w hw=>aL0 s9.g a9.Ag a9.cg w (gD.ro (y:=(a9.Ag,a9.cg,s9.g.p)) hI9.g hw (aD.nil _) (by refine bV) (by refine bV)) hgo.1 hgo.2.1 hgo.2.2.1 hgo.2.2.2.1 hgo.2.2.2.2) ?_;refine aB;refine lf rfl rfl rfl (S:=[.blk g 173 (aI s9 a9)]) (fun w hw ho=>bEv g s9 a9 d9 w ho hL9 hdd ⟨Ro.row hw aD.au (by refine bV)⟩ oo hh) ?_;rintro v S' ⟨A3,c3,rfl,rfl⟩;refine aB;refine lf rfl rfl rfl (S:=[.blk g 173 (aI s9 a9)]) (fun w hw ho=>aV7 g s9 a9 w ho hL9) ?_;rintro v S' ⟨rfl,rfl⟩;rw[v4,v5];refine aB;refine lf rfl rfl rfl (S:=[.blk g 173 (aI s9 a9)]) (fun w hw ho=>bEp g s9 a9 w ho hL9) ?_;rintro v S' ⟨rfl,rfl⟩;refine aB;refine lf rfl rfl rfl (S:=[.blk g 173 (aI s9 a9)]) (fun w hw ho=>aKs g 10 s9 a9 w ho hN od (gD.ro (y:=(a9.Ag,a9.cg,s9.g.p)) hI9.g hw aD.au (by refine bV) (by refine bV))) ?_;rintro v S' ⟨rfl,rfl⟩;rw[v7];refine aB;exact aK (S':=[]) rfl rfl (.nil _) ⟨rfl,rfl⟩
theorem aQf(n:Nat)(hn:n≤62)(w:World):aF prog 172 [.int .i64 n] [] w (fun v S'=>v=.int .i64 ((2^n:Nat):Int)∧S'=[]):=by
 refine aJ func172 rfl ntmps172 rfl ⟨aE,.nil⟩ (fun _=>?_);simp only[aG];refine aB;refine bT (X:=Nat) (fun q=>q≤n) (fun q=>[(0,.int .i64 n),(3,.int .i64 ((2^q:Nat):Int)),(4,.int .i64 q)]) (fun _=>[]) (fun q=>n-q) 0 (Nat.zero_le _) ⟨rfl,rfl,rfl,trivial⟩ (.nil _) ?_;intro i hi;rcases Nat.lt_or_ge i n with h|h
 ·have h1:2^(i+1)≤2^62:=Nat.pow_le_pow_right od oo;have h2:2^(i+1)=2*2^i:=by rw[Nat.pow_succ];omega
  rw[show (2:Nat)^62=4611686018427387904 by decide]at h1;rw[h2]at h1;generalize hp:2^i=p at *;refine aB;exact aN (i+1) h (by show n-(i+1)<n-i;omega) ⟨rfl,by simp only[h2];simp[aH],by simp[aH],trivial⟩ (.nil _)
 ·obtain rfl:i=n:=oo;generalize 2^i=p;refine aB;exact aK rfl rfl (.nil _) ⟨rfl,rfl⟩
instance pow62_cv:CV prog 172 [.int .i64 62] (.int .i64 4611686018427387904) True:=⟨fun _ w=>aQf 62 od w⟩
instance pow61_cv:CV prog 172 [.int .i64 61] (.int .i64 2305843009213693952) True:=⟨fun _ w=>aQf 61 od w⟩
instance pow30_cv:CV prog 172 [.int .i64 30] (.int .i64 1073741824) True:=⟨fun _ w=>aQf 30 od w⟩
theorem bFz(n fr:Nat)(hf:fr≤64)(w:World):aF prog 224 [.agg (aBr false n).toArray,.int .i64 fr] [] w (fun v S'=>v=.int .u64 ((n/2^fr%2^64:Nat):Int)∧S'=[]):=by
 refine aJ func224 rfl ntmps224 rfl ⟨aE,.nil⟩ (fun _=>?_);simp only[aG];refine aB;rename_i b2;refine bT (X:=Nat) (fun k=>k≤64) (fun k=>[(1,.int .i64 fr),(2,.pointer (some ⟨b2,0,none⟩)),(5,.int .u64 ((n/2^fr/2^k%2^(64-k):Nat):Int)),(6,.int .i64 ((k:Int)-1))])
  (fun k=>[.blk b2 347 (aBr false n)]) (fun k=>k) 64 (Nat.le_refl _) ⟨rfl,rfl,by rw[Nat.sub_self,Nat.pow_zero,Nat.mod_one];rfl,rfl,trivial⟩ aA.au ?_
 intro k hk;rcases Nat.eq_zero_or_pos k with h|h
 ·subst h;rw[Nat.pow_zero,Nat.div_one];refine aB;exact aK rfl rfl (.nil _) ⟨rfl,rfl⟩
 ·obtain⟨i,rfl⟩:∃i,k=i+1:=⟨k-1,oo⟩;have iL:aIx (i+fr):=⟨oo⟩;have hs:=bGh n fr i oo;have hlt:n/2^fr/2^i%2^(64-i)<18446744073709551616:=Nat.lt_of_lt_of_le (Nat.mod_lt _ (Nat.two_pow_pos _)) (Nat.pow_le_pow_right od (show 64-i≤64 by omega));have hb:=aPv n (i+fr);rw[show (((i+1:Nat):Int)-1)=(i:Int) by omega];rw[hs]at hlt;rw[Nat.add_comm fr i]at hs hlt;generalize n/2^fr/2^(i+1)%2^(64-(i+1))=y at *;rcases(show aA6 n (i+fr)=0∨aA6 n (i+fr)=1 by omega) with e|e
  ·have iE:∀w0 W H t u a b,MS prog w0 W H (.binOp .eql t a b u) [.int .i64 (aA6 n (i+fr):Nat),.int .i64 1] (.bool false) True:=fun _ _ _ _ _ _ _=>bM inferInstance trivial (congrArg Value.bool (by rw[e];decide));rw[e]at hs hlt;refine aB;refine aN i oo (Nat.lt_succ_self _) ⟨rfl,rfl,?_,by simp[aH],trivial⟩ aA.au;rw[hs];simp only[aH,List.lookup,Nat.beq];push_cast;rfl
  ·have iE:∀w0 W H t u a b,MS prog w0 W H (.binOp .eql t a b u) [.int .i64 (aA6 n (i+fr):Nat),.int .i64 1] (.bool true) True:=fun _ _ _ _ _ _ _=>bM inferInstance trivial (congrArg Value.bool (by rw[e];decide));rw[e]at hs hlt;refine aB;refine aN i oo (Nat.lt_succ_self _) ⟨rfl,rfl,?_,by simp[aH],trivial⟩ aA.au;rw[hs];simp only[aH,List.lookup,Nat.beq];push_cast;rfl
theorem bG8(a b:Nat)(ha:a≤4611686018427387904)(hb:b≤4611686018427387904)(w:World):aF prog 174 [.int .u64 a,.int .u64 b] [] w (fun v S'=>v=.int .u64 ((a*b/4611686018427387904:Nat):Int)∧S'=[]):=by
 have hm:a*b≤4611686018427387904*4611686018427387904:=Nat.mul_le_mul ha hb;have e1:a/2*b+a/2*b+a%2*b=a*b:=by have h1:=Nat.div_add_mod a 2;generalize a/2=q at *;generalize a%2=r at *;rw[← h1,Nat.add_mul,Nat.mul_assoc];generalize q*b=x;omega
 have M1:=fun w=>aU1 ((a/2:Nat):Int) (b:Int) (by show (-9223372036854775808:Int)≤_∧_≤(9223372036854775807:Int);omega) (by show (-9223372036854775808:Int)≤_∧_≤(9223372036854775807:Int);omega) false (decide_eq_false oo) (decide_eq_false oo) w;have M2:=fun w=>aU1 ((a%2:Nat):Int) (b:Int) (by show (-9223372036854775808:Int)≤_∧_≤(9223372036854775807:Int);omega) (by show (-9223372036854775808:Int)≤_∧_≤(9223372036854775807:Int);omega) false (decide_eq_false oo) (decide_eq_false oo) w;have iS:CV prog 224 [.agg (aBr false (a*b)).toArray,.int .i64 62] (.int .u64 ((a*b/4611686018427387904:Nat):Int)) True:=⟨fun _ w=>by have:=bFz (a*b) 62 od w;rw[Nat.mod_eq_of_lt (Nat.lt_of_le_of_lt (Nat.div_le_div_right hm) od)]at this;exact this⟩;simp only[Int.natAbs_natCast]at M1 M2;have b1:a/2*b+a/2*b≤a*b:=oo;have iM1:CV prog 221 [.int .i64 ((a:Int)/2),.int .i64 b] (.agg (aBr false (a/2*b)).toArray) True:=⟨fun _ w=>M1 w⟩;have iM2:CV prog 221 [.int .i64 ((a:Int)%2),.int .i64 b] (.agg (aBr false (a%2*b)).toArray) True:=⟨fun _ w=>M2 w⟩;clear M1 M2;generalize a/2*b=p at *;generalize a%2*b=q at *;rw[← e1]at iS hm;generalize a*b=ab at *;subst e1;refine aJ func174 rfl ntmps174 rfl ⟨aE,.nil⟩ (fun _=>?_);simp only[aG];refine aB;exact aK rfl rfl (.nil _) ⟨rfl,rfl⟩
theorem bG0{m r w:Nat}(h1:m*m≤w)(h2:w<(m+1)*(m+1))(h3:r*r≤w)(h4:w<(r+1)*(r+1)):m=r:=by
 rcases Nat.lt_trichotomy m r with h|h|h
 ·have:=Nat.mul_le_mul (show m+1≤r from h) (show m+1≤r from h);omega
 ·exact h
 ·have:=Nat.mul_le_mul (show r+1≤m from h) (show r+1≤m from h);omega
theorem bFu(h r:Nat)(hh:h≤4611686018427387904)(h3:r*r≤h*4611686018427387904)(h4:h*4611686018427387904<(r+1)*(r+1))(w:World):aF prog 173 [.int .u64 h] [] w (fun v S'=>v=.int .u64 (r:Int)∧S'=[]):=by
 have hw1:h*4611686018427387904≤4611686018427387904*4611686018427387904:=Nat.mul_le_mul_right _ hh;have iM:CV prog 221 [.int .i64 h,.int .i64 4611686018427387904] (.agg (aBr false (h*4611686018427387904)).toArray) True:=⟨fun _ w=>aU1 (h:Int) 4611686018427387904 (by show (-9223372036854775808:Int)≤_∧_≤(9223372036854775807:Int);omega) od false (decide_eq_false oo) od w⟩;obtain⟨wn,hwn⟩:∃wn,h*4611686018427387904=wn:=⟨_,rfl⟩;rw[hwn]at h3 h4 iM hw1;refine aJ func173 rfl ntmps173 rfl ⟨aE,.nil⟩ (fun _=>?_);simp only[aG];refine aB;rename_i b3;refine bT (X:=Nat×Nat) (fun q=>q.1<q.2∧q.2≤4611686018427387905∧q.1*q.1≤wn∧wn<q.2*q.2) (fun q=>[(3,.pointer (some ⟨b3,0,none⟩)),(4,.int .u64 q.1),(5,.int .u64 q.2)]) (fun _=>[.blk b3 347 (aBr false wn)]) (fun q=>q.2-q.1) (0,4611686018427387905) ⟨od,od,Nat.zero_le _,by show wn<4611686018427387905*4611686018427387905;omega⟩ ⟨rfl,rfl,rfl,trivial⟩ aA.au ?_;rintro⟨lo,hi⟩ ⟨q1,q2,q3,q4⟩;dsimp only at q1 q2 q3 q4 ⊢;by_cases hd:hi-lo>1
 ·obtain⟨m,hm⟩:∃m,(lo+hi)/2=m:=⟨_,rfl⟩;have m1:lo<m∧m<hi:=oo;have iQ:∀w0 W H t u a b,MS prog w0 W H (.binOp .quo t a b u) [.int .u64 ((lo:Int)+hi),.int .u64 2] (.int .u64 (m:Int)) True:=fun _ _ _ _ _ _ _=>bM inferInstance oo (congrArg (Value.int .u64) oo);have iM2:CV prog 221 [.int .i64 m,.int .i64 m] (.agg (aBr false (m*m)).toArray) True:=⟨fun _ w=>aU1 (m:Int) m (by show (-9223372036854775808:Int)≤_∧_≤(9223372036854775807:Int);omega) (by show (-9223372036854775808:Int)≤_∧_≤(9223372036854775807:Int);omega) false (decide_eq_false oo) (decide_eq_false oo) w⟩;have hmm:m*m≤4611686018427387904*4611686018427387904:=Nat.mul_le_mul oo oo;have iC:=cmp3_cv (m*m) wn;generalize hsq:m*m=mm at *;by_cases hc:mm≤wn
  ·have iL:∀w0 W H t u a b,MS prog w0 W H (.binOp .leq t a b u) [.int .i64 (aIs mm wn),.int .i64 0] (.bool true) True:=fun _ _ _ _ _ _ _=>bM inferInstance trivial (congrArg Value.bool (by unfold aIs;simp;omega));have iV:∀w0 W H t u a b,LV prog w0 W H (.binOp .leq t a b u) [.int .i64 (aIs mm wn),.int .i64 0] (.bool true) True:=fun _ _ _ _ _ _ _=>gO inferInstance trivial (congrArg Value.bool (by unfold aIs;simp;omega));refine aB;refine kC (0::1::2::3::4::5::6::7::[]) ?_;intro _;refine jY;all_goals exact aN (m,hi) ⟨m1.2,q2,by show m*m≤wn;omega,q4⟩ (by show hi-m<hi-lo;omega) ⟨rfl,rfl,rfl,trivial⟩ aA.au
  ·have iL:∀w0 W H t u a b,MS prog w0 W H (.binOp .leq t a b u) [.int .i64 (aIs mm wn),.int .i64 0] (.bool false) True:=fun _ _ _ _ _ _ _=>bM inferInstance trivial (congrArg Value.bool (by unfold aIs;simp;omega));have iV:∀w0 W H t u a b,LV prog w0 W H (.binOp .leq t a b u) [.int .i64 (aIs mm wn),.int .i64 0] (.bool false) True:=fun _ _ _ _ _ _ _=>gO inferInstance trivial (congrArg Value.bool (by unfold aIs;simp;omega));refine aB;refine kC (0::1::2::3::4::5::6::7::[]) ?_;intro _;refine jY;all_goals exact aN (lo,m) ⟨m1.1,by show m≤4611686018427387905;omega,q3,by show wn<m*m;omega⟩ (by show m-lo<hi-lo;omega) ⟨rfl,rfl,rfl,trivial⟩ aA.au
 ·obtain⟨e1,e2⟩:hi=lo+1∧lo=r:=by have e1:hi=lo+1:=oo;subst e1;exact⟨rfl,bG0 q3 q4 h3 h4⟩
  subst e1 e2;refine aB;all_goals first
   | exact aK rfl rfl (.nil _) ⟨rfl,rfl⟩
   | (exfalso;omega)
theorem bFj(x:Int):∀i,i<16→x%65536/((2^(15-i):Nat):Int)%2=x/2^(15-i)%2:=by
 intro i hi;rcases(show i=0∨i=1∨i=2∨i=3∨i=4∨i=5∨i=6∨i=7∨i=8∨i=9∨i=10∨i=11∨i=12∨i=13∨i=14∨i=15 by omega) with rfl|rfl|rfl|rfl|rfl|rfl|rfl|rfl|rfl|rfl|rfl|rfl|rfl|rfl|rfl|rfl
 ·rw[show ((2^(15-0):Nat):Int)=32768 from rfl,show (2:Int)^(15-0)=32768 from rfl];omega
 ·rw[show ((2^(15-1):Nat):Int)=16384 from rfl,show (2:Int)^(15-1)=16384 from rfl];omega
 ·rw[show ((2^(15-2):Nat):Int)=8192 from rfl,show (2:Int)^(15-2)=8192 from rfl];omega
 ·rw[show ((2^(15-3):Nat):Int)=4096 from rfl,show (2:Int)^(15-3)=4096 from rfl];omega
 ·rw[show ((2^(15-4):Nat):Int)=2048 from rfl,show (2:Int)^(15-4)=2048 from rfl];omega
 ·rw[show ((2^(15-5):Nat):Int)=1024 from rfl,show (2:Int)^(15-5)=1024 from rfl];omega
 ·rw[show ((2^(15-6):Nat):Int)=512 from rfl,show (2:Int)^(15-6)=512 from rfl];omega
 ·rw[show ((2^(15-7):Nat):Int)=256 from rfl,show (2:Int)^(15-7)=256 from rfl];omega
 ·rw[show ((2^(15-8):Nat):Int)=128 from rfl,show (2:Int)^(15-8)=128 from rfl];omega
 ·rw[show ((2^(15-9):Nat):Int)=64 from rfl,show (2:Int)^(15-9)=64 from rfl];omega
 ·rw[show ((2^(15-10):Nat):Int)=32 from rfl,show (2:Int)^(15-10)=32 from rfl];omega
 ·rw[show ((2^(15-11):Nat):Int)=16 from rfl,show (2:Int)^(15-11)=16 from rfl];omega
 ·rw[show ((2^(15-12):Nat):Int)=8 from rfl,show (2:Int)^(15-12)=8 from rfl];omega
 ·rw[show ((2^(15-13):Nat):Int)=4 from rfl,show (2:Int)^(15-13)=4 from rfl];omega
 ·rw[show ((2^(15-14):Nat):Int)=2 from rfl,show (2:Int)^(15-14)=2 from rfl];omega
 ·rw[show ((2^(15-15):Nat):Int)=1 from rfl,show (2:Int)^(15-15)=1 from rfl];omega
theorem bEz(x:Int)(hx:0≤x∧x≤4611686018427387904)(w:World):aF prog 127 [.int .i64 x] [] w (fun v S'=>v=.tuple #[.int .u64 (oU x),.int .i64 0]∧S'=[]):=by
 refine aJ func127 rfl ntmps127 rfl ⟨aE,.nil⟩ (fun _=>?_);simp only[aG];by_cases hb:40<x/65536
 ·have e:oU x=0:=by unfold oU;rw[if_neg oo,if_pos hb]
  rw[e];refine aB;all_goals first
   | (exfalso;omega)
   | exact cM rfl rfl rfl (.nil _) ⟨rfl,rfl⟩
 ·have e:oU x=lE x 16/1073741824/2^(x/65536).toNat:=by unfold oU;rw[if_neg oo,if_neg hb]
  rw[e];obtain⟨W,hW⟩:∃W:Nat,x/65536=(W:Int):=⟨(x/65536).toNat,oo⟩;have hpb:=bFj x;have hst:∀i,lE x (i+1)=if x/2^(15-i)%2=1 then lE x i*hL.getD (i+1) 0/4611686018427387904 else lE x i:=fun _=>rfl;have hin:=aB3 x;have h0:lE x 0=4611686018427387904:=rfl;rw[hW]at hb ⊢;have iQ0:∀w0 W' H t u a b,MS prog w0 W' H (.binOp .quo t a b u) [.int .i64 x,.int .i64 65536] (.int .i64 (W:Int)) True:=fun _ _ _ _ _ _ _=>bM inferInstance (by show 0≤x∧(0:Int)<65536∧((-9223372036854775808:Int)≤x∧x≤(9223372036854775807:Int));omega) (congrArg (Value.int .i64) hW);have hx2:0≤x%65536∧x%65536<65536:=oo;obtain⟨pt,hpt⟩:∃pt,x%65536=pt:=⟨_,rfl⟩;rw[hpt]at hx2 hpb;have iR0:∀w0 W' H t u a b,MS prog w0 W' H (.binOp .rem t a b u) [.int .i64 x,.int .i64 65536] (.int .i64 pt) True:=fun _ _ _ _ _ _ _=>bM inferInstance (by show 0≤x∧(0:Int)<65536;omega) (congrArg (Value.int .i64) hpt);obtain⟨e,he⟩:∃e:Nat→Int,∀i,lE x i=e i:=⟨_,fun _=>rfl⟩;simp only[he]at hst hin h0 ⊢;refine aB;refine bT (X:=Nat) (fun q=>q≤16) (fun q=>[(4,.int .i64 W),(5,.int .i64 pt),(6,.int .u64 (e q)),(7,.int .u64 (hL.getD q 0)),(8,.int .i64 q)]) (fun _=>[]) (fun q=>16-q) 0 (Nat.zero_le _) ⟨rfl,rfl,by simp[aH,h0],rfl,rfl,trivial⟩ (.nil _) ?_;intro i hi;rcases Nat.lt_or_ge i 16 with h|h
  ·obtain⟨sq1,sq2⟩:=bF7 i h;have l0:=aB6 i oo;have l1:=aB6 (i+1) oo;have ei:=hin i oo;have est:=hst i;have epb:=hpb i h;obtain⟨p,hp⟩:∃p:Nat,2^(15-i)=p:=⟨_,rfl⟩;have hp0:0<p:=by rw[← hp];exact Nat.two_pow_pos _
   have iP:CV prog 172 [.int .i64 (15-(i:Int))] (.int .i64 (p:Int)) True:=⟨fun _ w=>by have:=aQf (15-i) oo w;rw[hp,show ((15-i:Nat):Int)=15-(i:Int) by omega]at this;exact this⟩;rw[hp]at epb;obtain⟨h0n,e0⟩:∃k:Nat,hL.getD i 0=(k:Int):=⟨(hL.getD i 0).toNat,oo⟩;obtain⟨h1n,e1⟩:∃k:Nat,hL.getD (i+1) 0=(k:Int):=⟨(hL.getD (i+1) 0).toNat,oo⟩;obtain⟨en,e2⟩:∃k:Nat,e i=(k:Int):=⟨(e i).toNat,oo⟩;rw[e1,e0]at sq1 sq2;rw[e0]at l0;rw[e1]at l1;have hRt:=fun w=>bFu h0n h1n oo (Int.ofNat_le.1 (by rw[Int.natCast_mul,Int.natCast_mul];exact sq1)) (Int.ofNat_lt.1 (by rw[Int.natCast_mul,Int.natCast_mul,Int.natCast_add];exact sq2)) w;have hTm:=fun w=>bG8 en h1n oo oo w;rw[e1,e2]at est;rw[e2]at ei;rw[e0,e2];have iQ:∀w0 W' H t u a b,MS prog w0 W' H (.binOp .quo t a b u) [.int .i64 pt,.int .i64 (p:Int)] (.int .i64 (pt/(p:Int))) True:=fun _ _ _ _ _ _ _=>bM (c:=0≤pt∧0<(p:Int)∧aP .i64 pt) ⟨fun hc _ _ _ _ _ _ _ _ _ _ _ _ _ h1 h2 h3=>let ⟨p,q⟩:=dH h1;aHo p q hc.1 hc.2.1 hc.2.2 h2 h3⟩ (by show 0≤pt∧0<(p:Int)∧((-9223372036854775808:Int)≤pt∧pt≤(9223372036854775807:Int));omega) rfl;have q0:0≤pt/(p:Int):=Int.ediv_nonneg oo oo;by_cases hbit:pt/(p:Int)%2=1
   ·have iE:∀w0 W' H t u a b,MS prog w0 W' H (.binOp .eql t a b u) [.int .i64 (pt/(p:Int)%2),.int .i64 1] (.bool true) True:=fun _ _ _ _ _ _ _=>bM inferInstance trivial (congrArg Value.bool (by simp[hbit]));rw[if_pos (epb▸hbit)]at est;refine aB;refine bQ rfl rfl rfl (fun w hw=>hRt w) ?_;refine aB;refine bQ rfl rfl rfl (fun w hw=>hTm w) ?_;refine aB;refine aN (i+1) h (by show 16-(i+1)<16-i;omega) ⟨rfl,rfl,congrArg (fun z=>some (Value.int .u64 z)) est.symm,congrArg (fun z=>some (Value.int .u64 z)) e1.symm,by simp[aH],trivial⟩ (.nil _)
   ·have iE:∀w0 W' H t u a b,MS prog w0 W' H (.binOp .eql t a b u) [.int .i64 (pt/(p:Int)%2),.int .i64 1] (.bool false) True:=fun _ _ _ _ _ _ _=>bM inferInstance trivial (congrArg Value.bool (by simp[hbit]));rw[if_neg (by rw[← epb];exact hbit)]at est;refine aB;refine bQ rfl rfl rfl (fun w hw=>hRt w) ?_;refine aB;refine aN (i+1) h (by show 16-(i+1)<16-i;omega) ⟨rfl,rfl,congrArg (fun z=>some (Value.int .u64 z)) est.symm,congrArg (fun z=>some (Value.int .u64 z)) e1.symm,by simp[aH],trivial⟩ (.nil _)
  ·obtain rfl:i=16:=oo;have e16:=hin 16 (Nat.le_refl _);generalize e 16=m at *;refine aB;have k1:((16:Nat):Int)=16:=rfl;refine bT (X:=Nat) (fun q=>q≤W) (fun q=>[(4,.int .i64 W),(6,.int .u64 (m/1073741824/2^q)),(9,.int .i64 q)]) (fun _=>[]) (fun q=>W-q) 0 (Nat.zero_le _) ⟨rfl,by rw[Int.pow_zero,Int.ediv_one];rfl,rfl,trivial⟩ (.nil _) ?_;intro j hj;have hm0:0≤m/1073741824/2^j:=Int.ediv_nonneg oo (Int.le_of_lt (Int.pow_pos od));have hm1:m/1073741824/2^j≤m/1073741824:=Int.ediv_le_self _ oo;have hs:m/1073741824/2^(j+1)=m/1073741824/2^j/2:=by rw[Int.pow_succ,Int.ediv_ediv_of_nonneg (Int.le_of_lt (Int.pow_pos od))]
   rcases Nat.lt_or_ge j W with hw|hw
   ·generalize m/1073741824/2^j=y at *;have hy:y≤4611686018427387904:=oo;refine aB;exact aN (j+1) hw (by show W-(j+1)<W-j;omega) ⟨rfl,congrArg (fun z=>some (Value.int .u64 z)) hs.symm,by simp[aH],trivial⟩ (.nil _)
   ·obtain rfl:j=W:=oo;rw[Int.toNat_natCast];generalize m/1073741824/2^j=y at *;refine aB;exact cM rfl rfl rfl (.nil _) ⟨rfl,rfl⟩
instance check13_cv(n:jZ):CV prog 126 [.agg (kG n).toArray] (.int .i64 0) (gW n):=⟨fun hc w=>by obtain⟨⟨a1,a2⟩,⟨a3,a4⟩,a5,a6⟩:=hc;refine aJ func126 rfl ntmps126 rfl ⟨aE,.nil⟩ (fun _=>?_);simp only[aG];refine aB;refine bI;exact⟨rfl,rfl⟩⟩
instance widen27_cv(n:jZ)(r:Int):CV prog 64 [.agg (kG n).toArray,.int .i64 r] (.agg (kG { n with sig:=min (n.sig+r) 1048576 }).toArray) ((1≤n.sig∧n.sig≤1048576)∧0≤r∧r≤4294967296):=⟨fun hc w=>by
 obtain⟨⟨a1,a2⟩,a3,a4⟩:=hc;refine aJ func64 rfl ntmps64 rfl ⟨aE,.nil⟩ (fun _=>?_);simp only[aG];by_cases h:1048576<n.sig+r
 ·have e:min (n.sig+r) 1048576=1048576:=oo;rw[e];have iG:∀w0 W H t u a b,MS prog w0 W H (.binOp .gtr t a b u) [.int .i64 (n.sig+r),.int .i64 1048576] (.bool true) True:=fun _ _ _ _ _ _ _=>bM inferInstance trivial (congrArg Value.bool (decide_eq_true oo));refine aB;refine bI;exact⟨rfl,rfl⟩
 ·have e:min (n.sig+r) 1048576=n.sig+r:=oo;rw[e];have iG:∀w0 W H t u a b,MS prog w0 W H (.binOp .gtr t a b u) [.int .i64 (n.sig+r),.int .i64 1048576] (.bool false) True:=fun _ _ _ _ _ _ _=>bM inferInstance trivial (congrArg Value.bool (decide_eq_false oo));refine aB;refine bI;exact⟨rfl,rfl⟩⟩
instance power13_cv(n:jZ)(d:Int):CV prog 128 [.agg (kG n).toArray,.int .i64 d] (.int .i64 (oE n d)) (gW n∧aP .i64 d):=⟨fun ⟨hk,hd⟩ w=>by
 obtain⟨⟨a1,a2⟩,-⟩:=id hk;have iC:CV prog 126 [.agg (kG n).toArray] (.int .i64 0) True:=⟨fun _ w=>(check13_cv n).h hk w⟩;refine aJ func128 rfl ntmps128 rfl ⟨aE,.nil⟩ (fun _=>?_);simp only[aG];by_cases h1:32*n.sig<d
 ·rw[show oE n d=2621440 from if_pos (.inr h1)];have iG:∀w0 W H t u a b,MS prog w0 W H (.binOp .gtr t a b u) [.int .i64 d,.int .i64 (32*n.sig)] (.bool true) True:=fun _ _ _ _ _ _ _=>bM inferInstance trivial (congrArg Value.bool (decide_eq_true oo));refine aB;all_goals (refine bI;exact⟨rfl,rfl⟩)
 have iG1:∀w0 W H t u a b,MS prog w0 W H (.binOp .gtr t a b u) [.int .i64 d,.int .i64 (32*n.sig)] (.bool false) True:=fun _ _ _ _ _ _ _=>bM inferInstance trivial (congrArg Value.bool (decide_eq_false oo));by_cases h2:d < -32*n.sig
 ·rw[show oE n d=2621440 from if_pos (.inl h2)];have iG:∀w0 W H t u a b,MS prog w0 W H (.binOp .lss t a b u) [.int .i64 d,.int .i64 (-32*n.sig)] (.bool true) True:=fun _ _ _ _ _ _ _=>bM inferInstance trivial (congrArg Value.bool (decide_eq_true oo));refine aB;all_goals (refine bI;exact⟨rfl,rfl⟩)
 have iG2:∀w0 W H t u a b,MS prog w0 W H (.binOp .lss t a b u) [.int .i64 d,.int .i64 (-32*n.sig)] (.bool false) True:=fun _ _ _ _ _ _ _=>bM inferInstance trivial (congrArg Value.bool (decide_eq_false oo));have hs:0<n.sig*n.sig:=Int.mul_pos oo oo;have hS:=cN (a:=n.sig) (b:=n.sig) (A:=1048576) (B:=1048576) oo oo;have hD:=fU 33554432 33554432 (a:=d) (b:=d) oo oo;have hD0:0≤d*d:=by
  rcases Int.le_total 0 d with h|h
  ·exact Int.mul_nonneg h h
  ·exact Int.mul_nonneg_of_nonpos_of_nonpos h h
 have hq:=aNh a1 oo (d:=d) oo;have hf:=bFl (d:=d) hs;rw[show oE n d=min (cS (d*d*47274) (n.sig*n.sig) 2) 2621440 from if_neg oo,← hf];rw[← hf]at hq;have hq1:0≤d*d/(n.sig*n.sig):=Int.ediv_nonneg hD0 oo;have hr0:=Int.emod_nonneg (d*d) (show n.sig*n.sig≠0 by omega);have hr1:=Int.emod_lt_of_pos (d*d) hs;have hp2:0≤(2*(d*d%(n.sig*n.sig))*47274+n.sig*n.sig)/(2*(n.sig*n.sig)):=Int.ediv_nonneg oo oo;refine aB;all_goals first
  | (exfalso;omega)
  | (refine bI;exact⟨congrArg (Value.int .i64) oo,rfl⟩)⟩
instance weight13_cv(n:jZ)(d:Int):CV prog 65 [.agg (kG n).toArray,.int .i64 d] (.int .i64 (oM n d)) (gW n∧aP .i64 d):=⟨fun ⟨hk,hd⟩ w=>by obtain⟨⟨a1,a2⟩,⟨a3,a4⟩,-⟩:=id hk;have iC:CV prog 126 [.agg (kG n).toArray] (.int .i64 0) True:=⟨fun _ w=>(check13_cv n).h hk w⟩;have hp:=aNg hk d;have he:=aFt (oE n d);have hw:=aIl hk d;refine aJ func65 rfl ntmps65 rfl ⟨aE,.nil⟩ (fun _=>?_);simp only[aG];unfold oM at *;have iP:=power13_cv n d;generalize oE n d=p at *;have iE:CV prog 127 [.int .i64 p] (.tuple #[.int .u64 (oU p),.int .i64 0]) True:=⟨fun _ w=>bEz p oo w⟩;have hwr:=bGg (e:=oU p) (F:=n.flo);generalize oU p=e at *;have hm:=cN (a:=2*e) (b:=65536-n.flo) (A:=8589934592) (B:=65536) oo oo;rw[← hwr]at hw ⊢;refine aB;refine bI;exact⟨rfl,rfl⟩⟩
instance down27_cv(x:Int):CV prog 63 [.int .i64 x] (.int .i64 (x/256)) (-4611686018427387904≤x∧x≤4611686018427387904):=⟨fun ha w=>by
 have e:=bEa (a:=x) (b:=256) od;have hq : -4611686018427387904≤x.tdiv 256∧x.tdiv 256≤4611686018427387904:=by have h1:=Int.natAbs_tdiv_le_natAbs x 256;omega
 refine aJ func63 rfl ntmps63 rfl ⟨aE,.nil⟩ (fun _=>?_);simp only[aG];have iq:∀(w0:World) (W:Nat→Prop) (H:List HE) (t u:TypeId) (p q:Operand),MS prog w0 W H (.binOp .quo t p q u) [.int .i64 x,.int .i64 256] (.int .i64 (x.tdiv 256)) True:=fun w0 W H t u p q=>⟨fun _ _ _ _ _ _ _ _ _ _ _ _ _ _ h1 h2 h3=>(inferInstance:MW prog w0 W H (.binOp .quo t p q u) [.int .i64 x,.int .i64 256] (.int .i64 (IntKind.i64.wrap (x.tdiv 256))) ((256:Int)≠0)).h oo h1 h2 (by rw[IntKind.wrap_i64,show (x.tdiv 256+9223372036854775808)%18446744073709551616-9223372036854775808=x.tdiv 256 by omega];exact h3)⟩;have ir:∀(w0:World) (W:Nat→Prop) (H:List HE) (t u:TypeId) (p q:Operand),MS prog w0 W H (.binOp .rem t p q u) [.int .i64 x,.int .i64 256] (.int .i64 (x.tmod 256)) True:=fun w0 W H t u p q=>⟨fun _ _ _ _ _ _ _ _ _ _ _ _ _ _ h1 h2 h3=>(inferInstance:MW prog w0 W H (.binOp .rem t p q u) [.int .i64 x,.int .i64 256] (.int .i64 (x.tmod 256)) ((256:Int)≠0)).h oo h1 h2 h3⟩;rcases Int.lt_or_le (x.tmod 256) 0 with h|h
 ·rw[if_pos h]at e;rw[← e];refine aB;all_goals first
   | (exfalso;omega)
   | exact aK rfl rfl (.nil _) ⟨rfl,rfl⟩
 ·rw[if_neg oo]at e;rw[← e];refine aB;all_goals first
   | (exfalso;omega)
   | exact aK rfl rfl (.nil _) ⟨rfl,rfl⟩⟩
theorem bDe(A:Option Addr)(c:Nat)(p:List Int)(w:World)(hr:bF w (aV []) A p.length c 1 (aC .i64 p))(hp:dI p)(hm:p.length≤4096):
  aF prog 54 [.slice A p.length c] [] w (fun v S'=>v=.int .i64 (aM p p.length)∧S'=[]):=by
 have hin:=pG hp;refine aJ func54 rfl ntmps54 rfl ⟨aE,.nil⟩ (fun _=>?_);simp only[aG];refine aB;refine bT (X:=Nat) (fun q=>q≤p.length) (fun q=>[(0,.slice A p.length c),(3,.int .i64 (aM p q)),(4,.int .i64 q)]) (fun _=>[]) (fun q=>p.length-q) 0 (Nat.zero_le _) ⟨rfl,rfl,rfl,trivial⟩ (.nil _) ?_;intro i hi;rcases Nat.lt_or_ge i p.length with h|h
 ·obtain⟨b,o,rfl,hr2⟩:=hr.at_ (by omega:0<p.length);have e:aM p (i+1)=aM p i+p.getD i 0:=rfl;have h1:=hin i oo;have h2:=hp i h;refine aB;exact aN (i+1) h (by show p.length-(i+1)<p.length-i;omega) ⟨rfl,by simp[aH,e],by simp[aH],trivial⟩ (.nil _)
 ·have e:i=p.length:=oo;subst e;refine aB;exact aK rfl rfl (.nil _) ⟨rfl,rfl⟩
theorem bG2(g:bE)(A:Option Addr)(c:Nat)(w:World)(hr:bF w (aV []) A g.p.length c 1 (aC .i64 g.p))(hg:cO g):
  aF prog 121 [.agg (aQ g A c).toArray,.int .i64 1,.int .i64 0] [] w (fun v S'=>v=.int .i64 (bJ g.p (aU g.w) g.p.length)∧S'=[]):=by
 obtain⟨⟨hw,hh,hs⟩,hn,hW⟩:=id hg;have hp:=hW.1;have hm4:=hg.len;have hc:∀i,i<g.p.length→0≤aU g.w i∧aU g.w i≤63:=fun i _=>by have h1:=Int.emod_nonneg (i:Int) (show g.w≠0 by omega);have h2:=Int.emod_lt_of_pos (i:Int) (show 0<g.w by omega);unfold aU;omega
 have hin:=nM hp hc;have hsl:=pG hp;refine aJ func121 rfl ntmps121 rfl ⟨aE,.nil⟩ (fun _=>?_);simp only[aG];refine aB;rename_i b3;refine bT (X:=Nat) (fun q=>q≤g.p.length) (fun q=>[(1,.int .i64 1),(2,.int .i64 0),(3,.pointer (some ⟨b3,0,none⟩)),(7,.int .i64 (bJ g.p (aU g.w) q)),(8,.int .i64 q)]) (fun _=>[.blk b3 37 (aQ g A c)]) (fun q=>g.p.length-q) 0 (Nat.zero_le _) ⟨rfl,rfl,rfl,rfl,rfl,trivial⟩ aA.au ?_;intro i hi;rcases Nat.lt_or_ge i g.p.length with h|h
 ·have e:bJ g.p (aU g.w) (i+1)=bJ g.p (aU g.w) i+g.p.getD i 0*((i:Int)%g.w):=rfl;have h1:=hin i oo;have h2:=hp i h;have h3:=hc i h;have h4:=hsl i oo;unfold aU at h3;have h5:=cN (A:=1073741824) (B:=63) h2 h3;obtain⟨b,o,rfl,hr2⟩:=hr.at_ (by omega:0<g.p.length);refine aB;refine vG 3 ?_;refine aB;refine vG 2 ?_;refine aB;exact aN (i+1) h (by show g.p.length-(i+1)<g.p.length-i;omega) ⟨rfl,rfl,rfl,by simp[aH,e],by simp[aH],trivial⟩ aA.au
 ·have e:i=g.p.length:=oo;subst e;refine aB;exact aK rfl rfl (.nil _) ⟨rfl,rfl⟩
theorem bG3(g:bE)(A:Option Addr)(c:Nat)(w:World)(hr:bF w (aV []) A g.p.length c 1 (aC .i64 g.p))(hg:cO g):
  aF prog 121 [.agg (aQ g A c).toArray,.int .i64 0,.int .i64 1] [] w (fun v S'=>v=.int .i64 (bJ g.p (aT g.w) g.p.length)∧S'=[]):=by
 obtain⟨⟨hw,hh,hs⟩,hn,hW⟩:=id hg;have hp:=hW.1;have hm4:=hg.len;have hc:∀i,i<g.p.length→0≤aT g.w i∧aT g.w i≤63:=fun i hi=>by obtain⟨W,H,eW,eH,hW1,hH1,hWH⟩:=oC hg;rw[eW,(nG oo i).2.1];have:=pR (W:=W) (H:=H) (i:=i) oo;generalize i/W=r at *;omega
 have hin:=nM hp hc;have hsl:=pG hp;refine aJ func121 rfl ntmps121 rfl ⟨aE,.nil⟩ (fun _=>?_);simp only[aG];refine aB;rename_i b3;refine bT (X:=Nat) (fun q=>q≤g.p.length) (fun q=>[(1,.int .i64 0),(2,.int .i64 1),(3,.pointer (some ⟨b3,0,none⟩)),(7,.int .i64 (bJ g.p (aT g.w) q)),(8,.int .i64 q)]) (fun _=>[.blk b3 37 (aQ g A c)]) (fun q=>g.p.length-q) 0 (Nat.zero_le _) ⟨rfl,rfl,rfl,rfl,rfl,trivial⟩ aA.au ?_;intro i hi;rcases Nat.lt_or_ge i g.p.length with h|h
 ·have e:bJ g.p (aT g.w) (i+1)=bJ g.p (aT g.w) i+g.p.getD i 0*((i:Int)/g.w):=rfl;have h1:=hin i oo;have h2:=hp i h;have h3:=hc i h;have h4:=hsl i oo;unfold aT at h3;have h5:=cN (A:=1073741824) (B:=63) h2 h3;obtain⟨b,o,rfl,hr2⟩:=hr.at_ (by omega:0<g.p.length);refine aB;refine vG 2 ?_;refine aB;refine vG 3 ?_;refine aB;exact aN (i+1) h (by show g.p.length-(i+1)<g.p.length-i;omega) ⟨rfl,rfl,rfl,by simp[aH,e],by simp[aH],trivial⟩ aA.au
 ·have e:i=g.p.length:=oo;subst e;refine aB;exact aK rfl rfl (.nil _) ⟨rfl,rfl⟩
theorem bFe(g:bE)(A:Option Addr)(c:Nat)(w:World)(hr:bF w (aV []) A g.p.length c 1 (aC .i64 g.p))(hg:cO g)(hx : -4611686018427387904≤g.x∧g.x≤4611686018427387904)(hy : -4611686018427387904≤g.y∧g.y≤4611686018427387904):
  aF prog 60 [.agg (aQ g A c).toArray] [] w (fun v S'=>v=.tuple #[.agg #[.int .i64 (dM g).1,.int .i64 (dM g).2],.bool true]∧S'=[]):=by
 have hm4:=hg.len;obtain⟨⟨⟨a1,a2⟩,⟨a3,a4⟩,a5,a6⟩,hl,hp,hs1,hs2⟩:=id hg;have hX:=fun w hw=>bG2 g A c w hw hg;have hY:=fun w hw=>bG3 g A c w hw hg;have hS:=fun w hw=>bDe A c g.p w hw hp hm4.2;have hcl:∀i,i<g.p.length→0≤aU g.w i∧aU g.w i≤63:=fun i _=>by have h1:=Int.emod_nonneg (i:Int) (show g.w≠0 by omega);have h2:=Int.emod_lt_of_pos (i:Int) (show 0<g.w by omega);unfold aU;omega
 have hrw:∀i,i<g.p.length→0≤aT g.w i∧aT g.w i≤63:=fun i hi=>by obtain⟨W,H,eW,eH,hW1,hH1,hWH⟩:=oC hg;rw[eW,(nG oo i).2.1];have:=pR (W:=W) (H:=H) (i:=i) oo;generalize i/W=r at *;omega
 have bX:=nM (f:=aU g.w) (F:=63) hp hcl _ (Nat.le_refl _);have bY:=nM (f:=aT g.w) (F:=63) hp hrw _ (Nat.le_refl _);have hmi:=aGn hg;have mW:=cN (a:=g.w-1) (b:=g.st) (A:=63) (B:=4096) oo oo;have mH:=cN (a:=g.h-1) (b:=g.st) (A:=63) (B:=4096) oo oo;have mX:=cN (a:=2*g.st) (b:=bJ g.p (aU g.w) g.p.length) (A:=8192) (B:=68719476736) oo oo;have mY:=cN (a:=2*g.st) (b:=bJ g.p (aT g.w) g.p.length) (A:=8192) (B:=68719476736) oo oo;have hs0:0<aM g.p g.p.length:=oo;have fX:=bDu (x:=0) (st:=g.st) (S:=bJ g.p (aU g.w) g.p.length) hs0;have fY:=bDu (x:=0) (st:=g.st) (S:=bJ g.p (aT g.w) g.p.length) hs0;unfold dM at *;dsimp only at *;rw[← fX,← fY]at hmi;rw[← fX,← fY];generalize bJ g.p (aU g.w) g.p.length=SX at *;generalize bJ g.p (aT g.w) g.p.length=SY at *;generalize aM g.p g.p.length=SS at *;refine aJ func60 rfl ntmps60 rfl ⟨aE,.nil⟩ (fun _=>?_);simp only[aG];refine aB;refine bQ rfl rfl rfl (fun w hw=>hS w ⟨hr.h.go hw (aD.nil _)⟩) ?_;have iE0:∀w0 W H t u a b,MS prog w0 W H (.binOp .eql t a b u) [.int .i64 SS,.int .i64 0] (.bool false) True:=fun _ _ _ _ _ _ _=>bM inferInstance trivial (congrArg Value.bool (by simp;omega));refine aB;rename_i b1 b2;refine fL [.blk b1 37 (aQ g A c)] (0::1::2::3::4::5::6::7::8::9::10::11::[]) (.cons (.there _ (.here _ _)) (.nil _)) ?_;intro _;refine cF;all_goals refine bQ rfl rfl rfl (fun w hw=>hX w ⟨hr.h.go hw (aD.nil _)⟩) ?_
 all_goals refine cF
 refine fL [.blk b1 37 (aQ g A c)] (0::1::2::3::4::5::6::7::8::9::10::11::[]) (.cons (.there _ (.here _ _)) (.nil _)) ?_;intro _;refine cF;all_goals refine bQ rfl rfl rfl (fun w hw=>hY w ⟨hr.h.go hw (aD.nil _)⟩) ?_
 all_goals refine cF
 refine bI;exact⟨rfl,rfl⟩
theorem bDw(g:bE)(A:Option Addr)(c:Nat)(w:World)(hr:bF w (aV []) A g.p.length c 1 (aC .i64 g.p))(hp:dI g.p)(hm:g.p.length≤4096)(hs:0<aM g.p g.p.length):
  aF prog 55 [.agg (aQ g A c).toArray] [] w (fun v S'=>∃B d,v=.tuple #[.agg (aQ (cC g) B d).toArray,.int .i64 0]∧S'=[.row (.slice B (mF g.p).length d) 2 1 (mF g.p).length (aC .i64 (mF g.p))]):=by
 have hS:=fun w hw=>bDe A c g.p w hw hp hm;have hin:=pG hp g.p.length (Nat.le_refl _);have hN:mF g.p=cA (fun i=>g.p.getD i 0*1073741824/aM g.p g.p.length) g.p.length:=if_neg oo;unfold cC;rw[hN];generalize aM g.p g.p.length=SS at *;obtain⟨F,hFF⟩:∃F:Nat→Int,(fun i:Nat=>g.p.getD i 0*1073741824/SS)=F:=⟨_,rfl⟩;rw[hFF];refine aJ func55 rfl ntmps55 rfl ⟨aE,.nil⟩ (fun _=>?_);simp only[aG];refine aB;refine bQ rfl rfl rfl (fun w hw=>hS w ⟨hr.h.go hw (aD.nil _)⟩) ?_;have iE0:∀w0 W H t u a b,MS prog w0 W H (.binOp .leq t a b u) [.int .i64 SS,.int .i64 0] (.bool false) True:=fun _ _ _ _ _ _ _=>bM inferInstance trivial (congrArg Value.bool (decide_eq_false oo));refine aB;rename_i b1 b2;refine dD (e:=2) (size:=1) ?_;refine bT (X:=Nat×Option Addr×Nat) (fun q=>q.1≤g.p.length)
  (fun q=>[(1,.pointer (some ⟨b1,0,none⟩)),(2,.pointer (some ⟨b2,0,none⟩)),(4,.int .i64 SS),(5,.slice q.2.1 (cA F q.1).length q.2.2),(6,.int .i64 q.1)])
  (fun q=>[.row (.slice q.2.1 (cA F q.1).length q.2.2) 2 1 (cA F q.1).length (aC .i64 (cA F q.1)),.blk b1 37 (aQ g A c),.blk b2 37 kD]) (fun q=>g.p.length-q.1) (0,none,0) (Nat.zero_le _) ⟨rfl,rfl,rfl,rfl,rfl,trivial⟩ (by simp only[cA,aC,List.map_nil,List.length_nil];exact aA.au) ?_
 rintro⟨i,A1,c1⟩ hi;dsimp only at hi ⊢;rcases Nat.lt_or_ge i g.p.length with h|h
 ·have e:cA F (i+1)=cA F i++[F i]:=rfl;have htl:(cA F i).length=i:=eP F i;have hFi:F i=g.p.getD i 0*1073741824/SS:=by rw[← hFF]
  have h2:=hp i h;obtain⟨b,o,rfl,hr2⟩:=hr.at_ (by omega:0<g.p.length);refine aB;rename_i A2 c2;refine aN (i+1,A2,c2) h (by show g.p.length-(i+1)<g.p.length-i;omega) ⟨rfl,rfl,rfl,by simp[aH,e,hFi],by simp[aH],trivial⟩ ?_;simp only[e,hFi];exact aA.au
 ·obtain rfl:i=g.p.length:=oo;refine aB;refine eD (S':=[.row (.slice A1 (cA F g.p.length).length c1) 2 1 (cA F g.p.length).length (aC .i64 (cA F g.p.length))]) aA.au ?_;refine cY;exact⟨A1,c1,rfl,rfl⟩
def aEo(ks:List Int)(i:Nat):Int:=if i<ks.length then ks.getD i 0 else 1
def aM0(ks:List Int)(n:Nat):List Int:=if aM (cA (aEo ks) n) n=0 then (cA (aEo ks) n).set 0 1 else cA (aEo ks) n
def aM4(a b:Int)(ks:List Int):bE:=cC ⟨1+a%8,1+b%8,1000,-1000,256,aM0 ks ((1+a%8)*(1+b%8)).toNat⟩
theorem bE4{L:List Int}(hP:dI L)(hl:0<L.length):dI (L.set 0 1)∧0<aM (L.set 0 1) (L.set 0 1).length:=by
 have hQ:dI (L.set 0 1):=fun i hi=>by
  rw[List.length_set]at hi;have h:=hP i hi;rw[List.getD_eq_getElem?_getD,List.getElem?_set];rw[List.getD_eq_getElem?_getD]at h;split
  ·first|decide|(rw[if_pos hl];decide)
  ·exact h
 refine⟨hQ,?_⟩;have key:∀n,n<(L.set 0 1).length→1≤aM (L.set 0 1) (n+1):=by
  intro n
  induction n with
  | zero =>
   intro _;have e:(L.set 0 1).getD 0 0=1:=by rw[List.getD_eq_getElem?_getD,List.getElem?_set,if_pos rfl,if_pos hl];rfl
   show 1≤0+(L.set 0 1).getD 0 0;rw[e];decide
  | succ n ih =>
   intro h;have h1:=ih oo;have h2:=hQ (n+1) h;show 1≤aM (L.set 0 1) (n+1)+(L.set 0 1).getD (n+1) 0;omega
 have hlen:(L.set 0 1).length=L.length:=List.length_set ..;have:=key (L.length-1) oo;rw[show L.length-1+1=(L.set 0 1).length by omega]at this;omega
theorem bFd(a:Int)(ha:aP .u8 a)(b:Int)(hb:aP .u8 b)(A:Option Addr)(c:Nat)(ks:List Int)(w:World)(hr:bF w (aV []) A ks.length c 1 (aC .u16 ks))(hk:∀x∈ks,aP .u16 x)(hm:ks.length≤100):
  aF prog 13 [.int .u8 a,.int .u8 b,.slice A ks.length c,.int .u8 4] [] w (fun v S'=>∃B d,v=.agg (aQ (aM4 a b ks) B d).toArray∧S'=[.row (.slice B (aM4 a b ks).p.length d) 2 1 (aM4 a b ks).p.length (aC .i64 (aM4 a b ks).p)]):=by
 have ha1:0≤a∧a≤255:=ha;have hb1:0≤b∧b≤255:=hb;refine aJ func13 rfl ntmps13 rfl ⟨aE,.nil⟩ (fun _=>?_);simp only[aG];refine dD (e:=2) (size:=1) ?_;refine aB;rename_i b8 b9;rw[show IntKind.i64.wrap (16*2^min ((4:Int)%9).toNat IntKind.i64.bits)=256 by decide];unfold aM4 cC;dsimp only;obtain⟨X,hX⟩:∃X,1+a%8=X:=⟨_,rfl⟩;obtain⟨Y,hY⟩:∃Y,1+b%8=Y:=⟨_,rfl⟩;rw[hX,hY];have hX1:1≤X∧X≤8:=oo;have hY1:1≤Y∧Y≤8:=oo;have hXY:=cN (a:=X) (b:=Y) (A:=8) (B:=8) oo oo;have hXY1:0<X*Y:=Int.mul_pos oo oo;obtain⟨N,hN⟩:∃N:Nat,X*Y=(N:Int):=⟨(X*Y).toNat,oo⟩;have hNt:(X*Y).toNat=N:=oo;rw[hNt];rw[hN]at hXY hXY1;have iMul:∀w0 W H t u a b,MS prog w0 W H (.binOp .mul t a b u) [.int .i64 X,.int .i64 Y] (.int .i64 (N:Int)) True:=fun _ _ _ _ _ _ _=>bM inferInstance oo (congrArg (Value.int .i64) hN);refine bT (X:=Nat×Option Addr×Nat) (fun q=>q.1≤N)
  (fun q=>[(2,.slice A ks.length c),(8,.pointer (some ⟨b8,0,none⟩)),(9,.pointer (some ⟨b9,0,none⟩)),(10,.int .i64 q.1)])
  (fun q=>[.row (.slice q.2.1 (cA (aEo ks) q.1).length q.2.2) 2 1 (cA (aEo ks) q.1).length (aC .i64 (cA (aEo ks) q.1)),.blk b9 37 [.int .i64 X,.int .i64 Y,.int .i64 1000,.int .i64 (-1000),.int .i64 256,.slice q.2.1 (cA (aEo ks) q.1).length q.2.2],.blk b8 37 kD]) (fun q=>N-q.1) (0,none,0) (Nat.zero_le _) ⟨rfl,rfl,rfl,rfl,trivial⟩ (by simp only[cA,aC,List.map_nil,List.length_nil];exact aA.au) ?_
 rintro⟨i,A1,c1⟩ hi;dsimp only at hi ⊢;rcases Nat.lt_or_ge i N with h|h
 ·have e:cA (aEo ks) (i+1)=cA (aEo ks) i++[aEo ks i]:=rfl;have htl:(cA (aEo ks) i).length=i:=eP _ i;rcases Nat.lt_or_ge i ks.length with hk1|hk1
  ·have hFi:aEo ks i=ks.getD i 0:=if_pos hk1;have hki:0≤ks.getD i 0∧ks.getD i 0≤65535:=by rw[List.getD_eq_getElem?_getD,List.getElem?_eq_getElem hk1];exact hk _ (List.getElem_mem hk1)
   obtain⟨bk,ok,rfl,hr2⟩:=hr.at_ (by omega:0<ks.length);refine aB;rename_i A2 c2;refine aN (i+1,A2,c2) h (by show N-(i+1)<N-i;omega) ⟨rfl,rfl,rfl,by simp[aH],trivial⟩ ?_;simp only[e,hFi];exact aA.au
  ·have hFi:aEo ks i=1:=if_neg oo;refine aB;rename_i A2 c2;refine aN (i+1,A2,c2) h (by show N-(i+1)<N-i;omega) ⟨rfl,rfl,rfl,by simp[aH],trivial⟩ ?_;simp only[e,hFi];exact aA.au
 ·obtain rfl:i=N:=oo;have hP:dI (cA (aEo ks) i):=fun j hj=>by
   rw[eP]at hj;rw[mT _ hj];unfold aEo;split
   ·rename_i hjk;have:0≤ks.getD j 0∧ks.getD j 0≤65535:=by rw[List.getD_eq_getElem?_getD,List.getElem?_eq_getElem hjk];exact hk _ (List.getElem_mem hjk)
    omega
   ·omega
  have hLl:=eP (aEo ks) i;unfold aM0;generalize cA (aEo ks) i=L at *;subst hLl;refine aB;refine bQ rfl rfl rfl (fun w hw=>bDe A1 c1 L w ⟨Ro.row hw (aD.nil _) (by refine bV)⟩ hP oo) ?_;by_cases hs0:aM L L.length=0
  ·rw[if_pos hs0,hs0];obtain⟨hQ,hQs⟩:=bE4 hP oo;have hQl:(L.set 0 1).length=L.length:=List.length_set ..;refine uI (A:=A1) (m:=L.length) (cc:=c1) oo (fun ga hga=>?_);subst hga;refine aB;rw[← hQl];generalize L.set 0 1=M at *;refine lf rfl rfl rfl (S:=[]) (fun w hw ho=>bDw ⟨X,Y,1000,-1000,256,M⟩ (some ⟨ga,0,none⟩) c1 w ⟨Ro.row hw (aD.nil _) (by refine bV)⟩ hQ (by show M.length≤4096;omega) hQs) ?_;rintro v S' ⟨B,d,rfl,rfl⟩;refine aB;refine eD (S':=[.row (.slice B (mF M).length d) 2 1 (mF M).length (aC .i64 (mF M))]) aA.au ?_;refine cY;exact⟨B,d,rfl,rfl⟩
  ·rw[if_neg hs0];have iE:∀w0 W H t u a b,MS prog w0 W H (.binOp .eql t a b u) [.int .i64 (aM L L.length),.int .i64 0] (.bool false) True:=fun _ _ _ _ _ _ _=>bM inferInstance trivial (congrArg Value.bool (by simp[hs0]));have hsp:=pG hP L.length (Nat.le_refl _);refine aB;refine lf rfl rfl rfl (S:=[]) (fun w hw ho=>bDw ⟨X,Y,1000,-1000,256,L⟩ A1 c1 w ⟨Ro.row hw (aD.nil _) (by refine bV)⟩ hP (by show L.length≤4096;omega) (by show 0<aM L L.length;omega)) ?_;rintro v S' ⟨B,d,rfl,rfl⟩;refine aB;refine eD (S':=[.row (.slice B (mF L).length d) 2 1 (mF L).length (aC .i64 (mF L))]) aA.au ?_;refine cY;exact⟨B,d,rfl,rfl⟩
theorem bFp{ks:List Int}(hk:∀x∈ks,aP .u16 x)(n:Nat):dI (cA (aEo ks) n):=fun j hj=>by
 rw[eP]at hj;rw[mT _ hj];unfold aEo;split
 ·rename_i hjk;have:0≤ks.getD j 0∧ks.getD j 0≤65535:=by rw[List.getD_eq_getElem?_getD,List.getElem?_eq_getElem hjk];exact hk _ (List.getElem_mem hjk)
  omega
 ·omega
theorem bF6{a b:Int}(ha:aP .u8 a)(hb:aP .u8 b){ks:List Int}(hk:∀x∈ks,aP .u16 x)(x y:Int):cO { aM4 a b ks with x:=x,y:=y }:=by
 have ha1:0≤a∧a≤255:=ha;have hb1:0≤b∧b≤255:=hb;obtain⟨X,hX⟩:∃X,1+a%8=X:=⟨_,rfl⟩;obtain⟨Y,hY⟩:∃Y,1+b%8=Y:=⟨_,rfl⟩;unfold aM4 cC;dsimp only;rw[hX,hY];have hXY:=cN (a:=X) (b:=Y) (A:=8) (B:=8) oo oo;have hXY1:0<X*Y:=Int.mul_pos oo oo;obtain⟨N,hN⟩:∃N:Nat,(X*Y).toNat=N:=⟨_,rfl⟩;rw[hN];have hN0:0<N:=oo;have hP:=bFp hk N;have hL:=eP (aEo ks) N;have key:dI (aM0 ks N)∧0<aM (aM0 ks N) (aM0 ks N).length∧(aM0 ks N).length=N:=by
  unfold aM0;split
  ·obtain⟨h1,h2⟩:=bE4 hP oo;exact⟨h1,h2,by rw[List.length_set,hL]⟩
  ·rename_i h;have hs:=pG hP (cA (aEo ks) N).length (Nat.le_refl _);rw[← hL]at h;rw[eP]at h hs ⊢;exact⟨hP,oo,rfl⟩
 obtain⟨k1,k2,k3⟩:=key;refine⟨⟨⟨by show 1≤X;omega,by show X≤64;omega⟩,⟨by show 1≤Y;omega,by show Y≤64;omega⟩,by show (16:Int)≤256;decide,by show (256:Int)≤4096;decide⟩,?_,aGw k1 k2⟩;show ((mF (aM0 ks N)).length:Int)=X*Y;rw[aBk,k3];omega
end Go.Proofs.YtpmkboockihdbaaGreat
namespace Go.Proofs.YtpmkboockihdbaaGreat
open Go.RowKit _root_.Go.Proofs.Tryz
theorem bEw{P:Program}{f:FuncId}{args:List Value}{S:List HE}{w:World}{x:Value}(h:aF P f args S w fun v _=>v=x):aF P f args S w (fun v S'=>v=x∧S'=[]):=fun n =>
 (h n).mono fun _ _ ⟨v,_,e,h1,h2⟩=>⟨v,[],e,⟨h1,rfl⟩,h2.sub (.nil _)⟩
attribute [local irreducible] OJ J bO Code.wpIn wpListIn Oper.wpIn bodyPost CallsIn aF
theorem bGf(W H:Nat)(Af:Option Addr)(cf:Nat)(f:List Int)(g:bE)(A:Option Addr)(c:Nat)(n:jZ)(z:Int)(w:World)(hrf:bF w (aV []) Af f.length cf 1 (aC .i16 f))(hWH:1≤W∧W≤256∧1≤H∧H≤256)(hz0:f.length=W*H)(hf:dK f)
  (hr:bF w (aV []) A g.p.length c 1 (aC .i64 g.p)) (hg:cO g) (hx : -1099511627776≤g.x∧g.x≤1099511627776) (hy : -1099511627776≤g.y∧g.y≤1099511627776) (hn:gW n) (hz : -4398046511104≤z∧z≤4398046511104) :
  aF prog 15 [.agg #[.int .i64 W,.int .i64 H,.slice Af f.length cf],.agg (aQ g A c).toArray,.agg (kG n).toArray,.int .i64 z] [] w
   (fun v S'=>WgR (oK W H f g n z) v S' []):=by
 have hm4:=hg.len;have hMe:=fun w hw=>bFe g A c w hw hg oo oo;have hmi:=aGn hg;obtain⟨⟨⟨a1,a2⟩,⟨a3,a4⟩,a5,a6⟩,hl,hp,hs1,hs2⟩:=id hg;have mW:=cN (a:=g.w-1) (b:=g.st) (A:=63) (B:=4096) oo oo;have mH:=cN (a:=g.h-1) (b:=g.st) (A:=63) (B:=4096) oo oo;have hW:oK W H f g n z=if eN W H f (dM g).1 (dM g).2≠0 then none else some (cA (fun i=>if eN W H f (g.x+aU g.w i*g.st) (g.y+aT g.w i*g.st)=0 then oM (qM n (xO (nL W H f ((dM g).1/256) ((dM g).2/256) 1)/4)) (lI W H f (g.x+aU g.w i*g.st) (g.y+aT g.w i*g.st)-z)else (qM n (xO (nL W H f ((dM g).1/256) ((dM g).2/256) 1)/4)).flo) g.p.length):=rfl;rw[hW,aNx];clear hW;have hri:=aNy (nL W H f ((dM g).1/256) ((dM g).2/256) 1);have hRo:=fun w hw=>bEw (bFx W H Af cf f ((dM g).1/256) ((dM g).2/256) 1 w hw hWH hz0 hf);have hHm:=fun w hw=>bDz W H Af cf f (dM g).1 (dM g).2 w hw hWH hz0 hf;generalize dM g=m at *;obtain⟨m1,m2⟩:=m;dsimp only at hMe hRo hHm hmi hri ⊢;refine aJ func15 rfl ntmps15 rfl ⟨aE,.nil⟩ (fun _=>?_);simp only[aG];refine aB;refine bQ rfl rfl rfl (fun w hw=>hMe w ⟨hr.h.go hw (aD.nil _)⟩) ?_;refine aB;refine bQ rfl rfl rfl (fun w hw=>hHm w ⟨hrf.h.go hw (aD.nil _)⟩) ?_;by_cases hc:eN W H f m1 m2=0;case neg =>
  rw[if_pos hc];refine aB;exact cM rfl rfl rfl (.nil _) (.inl ⟨rfl,rfl,rfl⟩)
 rw[if_neg (by rw[hc];decide),hc];have hin:jR W H m1 m2:=by
  by_cases h:jR W H m1 m2
  ·exact h
  ·unfold eN at hc;rw[if_neg h]at hc;exact absurd hc od
 unfold jR at hin;have hq1:aUu W H f (m1/256) (m2/256) 1=mI (nL W H f (m1/256) (m2/256) 1):=if_neg oo;rw[hq1]at hRo;generalize (mI (nL W H f (m1/256) (m2/256) 1)).1=ro at *;generalize (mI (nL W H f (m1/256) (m2/256) 1)).2=ro2 at *;refine aB;rename_i b4 b5 b6 b10;refine fL [.blk b10 44 [.int .i64 m1,.int .i64 m2],.blk b4 28 [.int .i64 W,.int .i64 H,.slice Af f.length cf]] (0::1::2::3::4::5::6::7::8::9::10::11::12::[]) (.cons (.here _ _) (.cons (.there _ (.there _ (.here _ _))) (.nil _))) ?_;intro _;refine cF;refine bQ rfl rfl rfl (fun w hw=>hRo w ⟨hrf.h.go hw (aD.nil _)⟩) ?_;have ev:qM n (ro/4) = { n with sig:=min (n.sig+ro/4) 1048576 }:=by obtain⟨⟨n1,n2⟩,-⟩:=id hn;unfold qM;congr 1;omega
 have hwn:=aIm hn (ro/4);have iW:CV prog 64 [.agg (kG n).toArray,.int .i64 (ro/4)] (.agg (kG (qM n (ro/4))).toArray) True:=⟨fun _ w=>by rw[ev];exact(widen27_cv n (ro/4)).h ⟨hn.1,oo,oo⟩ w⟩;generalize qM n (ro/4)=v at *;obtain⟨F,hFF⟩:∃F:Nat→Int,(fun i:Nat=>if eN W H f (g.x+aU g.w i*g.st) (g.y+aT g.w i*g.st)=0 then oM v (lI W H f (g.x+aU g.w i*g.st) (g.y+aT g.w i*g.st)-z)else v.flo)=F:=⟨_,rfl⟩;rw[hFF];refine cF;rename_i b16;refine dD (e:=2) (size:=1) ?_;refine bT (X:=Nat×Option Addr×Nat) (fun q=>q.1≤g.p.length)
  (fun q=>[(3,.int .i64 z),(4,.pointer (some ⟨b4,0,none⟩)),(5,.pointer (some ⟨b5,0,none⟩)),(16,.pointer (some ⟨b16,0,none⟩)),(17,.slice q.2.1 (cA F q.1).length q.2.2),(18,.int .i64 q.1)])
  (fun q=>[.row (.slice q.2.1 (cA F q.1).length q.2.2) 2 1 (cA F q.1).length (aC .i64 (cA F q.1)),.blk b16 25 (kG v),.blk b5 37 (aQ g A c),.blk b4 28 [.int .i64 W,.int .i64 H,.slice Af f.length cf]]) (fun q=>g.p.length-q.1) (0,none,0) (Nat.zero_le _) ⟨rfl,rfl,rfl,rfl,rfl,rfl,trivial⟩ (by simp only[cA,aC,List.map_nil,List.length_nil];exact aA.au) ?_
 rintro⟨i,A1,c1⟩ hi;dsimp only at hi ⊢;rcases Nat.lt_or_ge i g.p.length with h|h
 ·have e:cA F (i+1)=cA F i++[F i]:=rfl;have htl:(cA F i).length=i:=eP F i;have hFi:F i=if eN W H f (g.x+aU g.w i*g.st) (g.y+aT g.w i*g.st)=0 then oM v (lI W H f (g.x+aU g.w i*g.st) (g.y+aT g.w i*g.st)-z)else v.flo:=by rw[← hFF]
  have hc1:0≤(i:Int)%g.w∧(i:Int)%g.w≤63:=by have h1:=Int.emod_nonneg (i:Int) (show g.w≠0 by omega);have h2:=Int.emod_lt_of_pos (i:Int) (show 0<g.w by omega);omega
  have hr1:0≤(i:Int)/g.w∧(i:Int)/g.w≤63:=by obtain⟨W2,H2,eW,eH,hW1,hH1,hWH2⟩:=oC hg;rw[eW,← aT,(nG oo i).2.1];have:=pR (W:=W2) (H:=H2) (i:=i) oo;generalize i/W2=r at *;omega
  unfold aU aT at hFi;have mc:=cN (a:=(i:Int)%g.w) (b:=g.st) (A:=63) (B:=4096) hc1 oo;have mr:=cN (a:=(i:Int)/g.w) (b:=g.st) (A:=63) (B:=4096) hr1 oo;have hH:=aG6 hf (W:=W) (H:=H) (g.x+(i:Int)%g.w*g.st) (g.y+(i:Int)/g.w*g.st);have hHt:=fun w hw=>bDz W H Af cf f (g.x+(i:Int)%g.w*g.st) (g.y+(i:Int)/g.w*g.st) w hw hWH hz0 hf;have iN:CV prog 65 [.agg (kG v).toArray,.int .i64 (lI W H f (g.x+(i:Int)%g.w*g.st) (g.y+(i:Int)/g.w*g.st)-z)] (.int .i64 (oM v (lI W H f (g.x+(i:Int)%g.w*g.st) (g.y+(i:Int)/g.w*g.st)-z))) True:=⟨fun _ w=>(weight13_cv v _).h ⟨hwn,by show (-9223372036854775808:Int)≤_∧_≤(9223372036854775807:Int);omega⟩ w⟩;refine aB;refine bQ rfl rfl rfl (fun w hw=>hHt w ⟨hrf.h.go hw (aD.nil _)⟩) ?_;clear hHt;generalize lI W H f (g.x+(i:Int)%g.w*g.st) (g.y+(i:Int)/g.w*g.st)=hh at *;generalize eN W H f (g.x+(i:Int)%g.w*g.st) (g.y+(i:Int)/g.w*g.st)=cd at *;by_cases hc0:cd=0
  ·rw[if_pos hc0]at hFi;subst hc0;have iE:∀w0 W H t u a b,MS prog w0 W H (.binOp .neq t a b u) [.int .i64 0,.int .i64 0] (.bool false) True:=fun _ _ _ _ _ _ _=>bM inferInstance trivial rfl;refine aB;rename_i A2 c2;refine aN (i+1,A2,c2) h (by show g.p.length-(i+1)<g.p.length-i;omega) ⟨rfl,rfl,rfl,rfl,by simp[aH,e,hFi],by simp[aH],trivial⟩ ?_;simp only[e,hFi];exact aA.au
  ·rw[if_neg hc0]at hFi;have iE:∀w0 W H t u a b,MS prog w0 W H (.binOp .neq t a b u) [.int .i64 cd,.int .i64 0] (.bool true) True:=fun _ _ _ _ _ _ _=>bM inferInstance trivial (congrArg Value.bool (by simpa using hc0));refine aB;rename_i A2 c2;refine aN (i+1,A2,c2) h (by show g.p.length-(i+1)<g.p.length-i;omega) ⟨rfl,rfl,rfl,rfl,by simp[aH,e,hFi],by simp[aH],trivial⟩ ?_;simp only[e,hFi];exact aA.au
 ·obtain rfl:i=g.p.length:=oo;refine aB;exact cM (S':=[.row (.slice A1 (cA F g.p.length).length c1) 2 1 (cA F g.p.length).length (aC .i64 (cA F g.p.length))]) rfl rfl rfl aA.au (.inr ⟨_,A1,c1,rfl,rfl,rfl⟩)
end Go.Proofs.YtpmkboockihdbaaGreat
namespace Go.Proofs.YtpmkboockihdbaaGreat
open Go.RowKit _root_.Go.Proofs.Tryz
theorem bEt:aQ1 prog 25 [.i64,.i64,.i64]:=bEu [[.i64],[.i64],[.i64]] underlying25 ⟨_,_,rfl,rfl,bD6,_,_,rfl,rfl,bD6,_,_,rfl,rfl,bD6,rfl⟩ (by kernel_rfl)
attribute [local irreducible] OJ J bO Code.wpIn wpListIn Oper.wpIn bodyPost CallsIn aF
theorem bFg(a:Int)(ha:aP .u8 a)(b:Int)(hb:aP .u8 b)(A:Option Addr)(c:Nat)(z:List Int){w:World}(hr:bF w (aV []) A z.length c 1 (aC .i16 z))(hz:∀x∈z,aP .i16 x)(a2:Int)(ha2:aP .u8 a2)(b2:Int)(hb2:aP .u8 b2)(B:Option Addr)(d:Nat)(ks:List Int)(hrk:bF w (aV []) B ks.length d 1 (aC .u16 ks))(hk:∀x∈ks,aP .u16 x)(x:Int)(hx:aP .i64 x)(y:Int)(hy:aP .i64 y)(n:jZ)(hn1:aP .i64 n.sig)(hn2:aP .i64 n.flo)(hn3:aP .i64 n.gate)(zz:Int)(hzz:aP .i64 zz):
  aF prog 3 [.int .u8 a,.int .u8 b,.slice A z.length c,.int .u8 a2,.int .u8 b2,.slice B ks.length d,.int .i64 x,.int .i64 y,.agg (kG n).toArray,.int .i64 zz] [] w (fun v _=>v=.bool true):=by
 have ha1:0≤a∧a≤255:=ha;have hb1:0≤b∧b≤255:=hb;have iW:CV prog 10 [] (.bool true) True:=⟨fun _ w=>bGi w⟩;refine aJ func3 rfl ntmps3 rfl ⟨aE,.nil⟩ (fun _=>?_);simp only[aG];by_cases hc:2000<z.length∨100<ks.length∨x < -1099511627776∨1099511627776<x∨y < -1099511627776∨1099511627776<y
 ·refine aB;all_goals first
   | exact aK rfl rfl (.nil _) rfl
   | (exfalso;omega)
 obtain⟨W,hW,hW1⟩:∃q:Nat,2+(10+a%29)%39=(q:Int)∧2≤q∧q≤40:=⟨(2+(10+a%29)%39).toNat,oo,oo⟩;obtain⟨H,hH,hH1⟩:∃q:Nat,2+(10+b%29)%39=(q:Int)∧2≤q∧q≤40:=⟨(2+(10+b%29)%39).toNat,oo,oo⟩;have iG1:∀w0 W H t u a b,MS prog w0 W H (.binOp .gtr t a b u) [.int .i64 (z.length:Int),.int .i64 2000] (.bool false) True:=fun _ _ _ _ _ _ _=>bM inferInstance trivial (congrArg Value.bool (decide_eq_false oo));have iG2:∀w0 W H t u a b,MS prog w0 W H (.binOp .gtr t a b u) [.int .i64 (ks.length:Int),.int .i64 100] (.bool false) True:=fun _ _ _ _ _ _ _=>bM inferInstance trivial (congrArg Value.bool (decide_eq_false oo));have iX1:∀w0 W H t u a b,MS prog w0 W H (.binOp .lss t a b u) [.int .i64 x,.int .i64 (-1099511627776)] (.bool false) True:=fun _ _ _ _ _ _ _=>bM inferInstance trivial (congrArg Value.bool (decide_eq_false oo));have iX2:∀w0 W H t u a b,MS prog w0 W H (.binOp .gtr t a b u) [.int .i64 x,.int .i64 1099511627776] (.bool false) True:=fun _ _ _ _ _ _ _=>bM inferInstance trivial (congrArg Value.bool (decide_eq_false oo));have iY1:∀w0 W H t u a b,MS prog w0 W H (.binOp .lss t a b u) [.int .i64 y,.int .i64 (-1099511627776)] (.bool false) True:=fun _ _ _ _ _ _ _=>bM inferInstance trivial (congrArg Value.bool (decide_eq_false oo));have iY2:∀w0 W H t u a b,MS prog w0 W H (.binOp .gtr t a b u) [.int .i64 y,.int .i64 1099511627776] (.bool false) True:=fun _ _ _ _ _ _ _=>bM inferInstance trivial (congrArg Value.bool (decide_eq_false oo));refine aB;refine lf rfl rfl rfl (S:=[]) (fun w hw ho=>aWj (10+a%29) (10+b%29) (by show (0:Int)≤_∧_≤(255:Int);omega) (by show (0:Int)≤_∧_≤(255:Int);omega) W H hW hH A c z 29 od 0 0 w ⟨hr.h.go hw (aD.nil _)⟩ oo) ?_;rintro v S' ⟨Af,cf,rfl,rfl⟩;have hfl:=aKq z (W*H);have hfi:=aTw hz (W*H);generalize mD z (W*H)=f at *;rw[show (1+29%1000:Int)=((30:Nat):Int) by decide];have hcb:2≤W∧W≤256∧2≤H∧H≤256∧1≤30∧30≤1000:=oo;refine aB;rename_i b21;refine lf rfl rfl rfl (S:=[]) (fun w hw ho=>bFi W H 30 Af cf f 0 0 4 w ⟨Ro.row hw (aD.nil _) (by refine bV)⟩ hcb hfl hfi od od od) ?_;rintro v S' ⟨K,hys,hrm,rfl,rfl⟩;refine aB;refine lf rfl rfl rfl (S:=[]) (fun w hw ho=>bFd a2 ha2 b2 hb2 B d ks w ⟨hrk.h.go hw (aD.nil _)⟩ hk oo) ?_;rintro v S' ⟨Bg,dg,rfl,rfl⟩;have hG:=bF6 ha2 hb2 hk x y;generalize aM4 a2 b2 ks=g0 at *;by_cases hq:gW n∧-1099511627776≤zz∧zz≤1099511627776
 rotate_left
 ·unfold gW at hq;refine aB;all_goals first
   | exact aK rfl rfl (.nil _) rfl
   | (exfalso;omega)
   | (trace_state;sorry)
 obtain⟨hn,hz1,hz2⟩:=hq;obtain⟨⟨n1,n2⟩,⟨n3,n4⟩,n5,n6⟩:=id hn;refine aB;have hF:kJ K.ys f K.room:=by rw[hys,hrm];exact aF9 hcb hfl hfi oo
 have k0:cV K.ys f K.room (rD 4) 0:=by rw[hrm];exact aMn oo
 refine lf rfl rfl rfl (S:=K.H (rD 4)) (fun w hw ho=>aIj K (rD 4) f { g0 with x:=x,y:=y } Bg dg n zz 0 w ho hF k0 od ⟨Ro.row hw aD.au (by refine bV)⟩ hG (by show _≤x∧x≤_;omega) (by show _≤y∧y≤_;omega) hn oo) ?_;rintro v S' ⟨s2,hk2,hv⟩;obtain⟨-,h2,h3,-,-,-⟩:=aAw (ox:=0) (oy:=0) (z:=f) (W:=W) (H:=H) (cell:=30) oo;rw[hys,h2,h3]at hv;have hR:=fun w hw hw2=>bGf W H Af cf f { g0 with x:=x,y:=y } Bg dg n zz w hw oo hfl hfi hw2 hG (by show _≤x∧x≤_;omega) (by show _≤y∧y≤_;omega) hn oo;have hol:∀l,oK W H f { g0 with x:=x,y:=y } n zz=some l→l.length≤4096:=fun l hl=>by
  have h4:g0.p.length≤4096:=hG.len.2;unfold oK at hl;dsimp only at hl;split at hl
  ·cases hl
  ·injection hl with hl;rw[← hl,eP];exact h4
 generalize oK W H f { g0 with x:=x,y:=y } n zz=o at *;rcases hv with⟨rfl,rfl,rfl⟩ | ⟨l1,A1,c1,rfl,rfl,rfl⟩
 ·refine aB;refine lf rfl rfl rfl (S:=[]) (fun w hw ho=>hR w ⟨Ro.row hw (aD.nil _) (by refine bV)⟩ ⟨Ro.row hw (aD.nil _) (by refine bV)⟩) ?_;rintro v S' (⟨-,rfl,rfl⟩ | ⟨l2,A2,c2,h,-⟩)
  rotate_left
  ·cases h
  refine aB;refine vG 2 ?_;refine aB;all_goals exact aK rfl rfl (.nil _) rfl
 ·refine aB;refine lf rfl rfl rfl (S:=[]) (fun w hw ho=>hR w ⟨Ro.row hw (aD.nil _) (by refine bV)⟩ ⟨Ro.row hw (aD.nil _) (by refine bV)⟩) ?_;rintro v S' (⟨h,-⟩ | ⟨l2,A2,c2,h,rfl,rfl⟩)
  ·cases h
  injection h with h;subst h;have hl4:=hol l1 rfl;refine aB;refine bT (X:=Nat) (fun q=>q≤l1.length) (fun q=>[(24,.slice A1 l1.length c1),(26,.slice A2 l1.length c2),(28,.int .i64 q)]) (fun _=>[.row (.slice A2 l1.length c2) 2 1 l1.length (aC .i64 l1),.row (.slice A1 l1.length c1) 2 1 l1.length (aC .i64 l1)]) (fun q=>l1.length-q) 0 (Nat.zero_le _) ⟨rfl,rfl,rfl,trivial⟩ aA.au ?_;intro i hi;rcases Nat.lt_or_ge i l1.length with h|h
  ·have iE:∀w0 W H t u a b,MS prog w0 W H (.binOp .neq t a b u) [.int .i64 (l1.getD i 0),.int .i64 (l1.getD i 0)] (.bool false) True:=fun _ _ _ _ _ _ _=>bM inferInstance trivial (congrArg Value.bool aE);refine uI (A:=A1) (m:=l1.length) (cc:=c1) oo (fun g1 hg1=>?_);subst hg1;refine uI (A:=A2) (m:=l1.length) (cc:=c2) oo (fun g2 hg2=>?_);subst hg2;refine aB;exact aN (i+1) h (by show l1.length-(i+1)<l1.length-i;omega) ⟨rfl,rfl,by simp[aH],trivial⟩ aA.au
  ·refine aB;exact aK (S':=[]) rfl rfl (.nil _) rfl
end Go.Proofs.YtpmkboockihdbaaGreat
namespace Go.Proofs.YtpmkboockihdbaaGreat
open Go.ChangeAt Go.ChangeShapes Go.Deep Go.Joins Go.RowKit Go.WideShapes
section
variable {H:Type} {enc:TypeId×Value→H} {P:Program} {w:World} {base:Nat} {spare:Nat→Bool} {held:Bool}
theorem bGa{t0 t1 t2 t3 t4 t5 t6 t7 t8 t9:TypeId}{args:Array Value}{ds:List (DataW H)}{ps:List MemPlace}(h:DataW.TrodAll enc P w base spare held [t0,t1,t2,t3,t4,t5,t6,t7,t8,t9] args.toList ds ps):
  ∃v0 v1 v2 v3 v4 v5 v6 v7 v8 v9 d0 d1 d2 d3 d4 d5 d6 d7 d8 d9 p0 p1 p2 p3 p4 p5 p6 p7 p8 p9,args=#[v0,v1,v2,v3,v4,v5,v6,v7,v8,v9]∧ds=[d0,d1,d2,d3,d4,d5,d6,d7,d8,d9]∧ps=p0++p1++p2++p3++p4++p5++p6++p7++p8++p9∧DataW.Trod enc P w base spare held t0 v0 d0 p0∧DataW.Trod enc P w base spare held t1 v1 d1 p1∧DataW.Trod enc P w base spare held t2 v2 d2 p2∧DataW.Trod enc P w base spare held t3 v3 d3 p3∧DataW.Trod enc P w base spare held t4 v4 d4 p4∧DataW.Trod enc P w base spare held t5 v5 d5 p5∧DataW.Trod enc P w base spare held t6 v6 d6 p6∧DataW.Trod enc P w base spare held t7 v7 d7 p7∧DataW.Trod enc P w base spare held t8 v8 d8 p8∧DataW.Trod enc P w base spare held t9 v9 d9 p9:=by
 obtain⟨v0,vs0,d0,ds0,p0,q0,hargs,rfl,rfl,k0,h0⟩:=trodAll_cons h;obtain⟨v1,vs1,d1,ds1,p1,q1,rfl,rfl,rfl,k1,h1⟩:=trodAll_cons h0;obtain⟨v2,vs2,d2,ds2,p2,q2,rfl,rfl,rfl,k2,h2⟩:=trodAll_cons h1;obtain⟨v3,vs3,d3,ds3,p3,q3,rfl,rfl,rfl,k3,h3⟩:=trodAll_cons h2;obtain⟨v4,vs4,d4,ds4,p4,q4,rfl,rfl,rfl,k4,h4⟩:=trodAll_cons h3;obtain⟨v5,vs5,d5,ds5,p5,q5,rfl,rfl,rfl,k5,h5⟩:=trodAll_cons h4;obtain⟨v6,vs6,d6,ds6,p6,q6,rfl,rfl,rfl,k6,h6⟩:=trodAll_cons h5;obtain⟨v7,vs7,d7,ds7,p7,q7,rfl,rfl,rfl,k7,h7⟩:=trodAll_cons h6;obtain⟨v8,vs8,d8,ds8,p8,q8,rfl,rfl,rfl,k8,h8⟩:=trodAll_cons h7;obtain⟨v9,vs9,d9,ds9,p9,q9,rfl,rfl,rfl,k9,h9⟩:=trodAll_cons h8;obtain⟨rfl,rfl,rfl⟩:=trodAll_nil h9;exact⟨v0,v1,v2,v3,v4,v5,v6,v7,v8,v9,d0,d1,d2,d3,d4,d5,d6,d7,d8,d9,p0,p1,p2,p3,p4,p5,p6,p7,p8,p9,by cases args;simp_all,rfl,aE,k0,k1,k2,k3,k4,k5,k6,k7,k8,k9⟩
end
