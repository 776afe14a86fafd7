import Derived.Laws.BytesArg
import Derived.Laws.Strings
import Derived.Laws.Pointers
import Derived.Laws.CopyRow
import Derived.Laws.MakeOwn
import Derived.Laws.Slices
import Derived.Test.YtpmkboockihdbaaGreatP21
import Derived.Test.YtpmkboockihdbaaGreatP22
set_option maxHeartbeats 512000000
set_option maxRecDepth 4000
set_option linter.unusedVariables false
set_option linter.unusedSimpArgs false
namespace Go.Proofs.YtpmkboockihdbaaGreat
open Go.RowKit
theorem aF.calls{P:Program}{f:FuncId}{args:List Value}{S:List HE}{w:World}{Rl:Value→List HE→Prop}(h:aF P f args S w Rl):Calls P f args.toArray w (oN S w Rl):=callsIn_wide.1 (h 0)
section
variable {F:Fence} {n:Nat} {P:Program} {N:Nat} {ds:List Deferred} {w0:World} {W:Nat→Prop} {σ:List (Nat×Value)} {H R:List HE} {Q:Exit→Act→World→Prop} {K:Act→World→Prop}
variable {d:Nat} {ty:TypeId} {pos:String} {aft:Array Edge} {gd:Option (Nat×Bool)} {o:Oper}
end
section
variable {P:Program}
instance (t u:TypeId)(x y:Operand)(k:IntKind)(a b:Int):PV P (.binOp .leq t x y u) [.int k a,.int k b] (.bool (decide (a≤b))) True:=⟨fun _=>yY rfl⟩
end
end Go.Proofs.YtpmkboockihdbaaGreat
namespace Go.Proofs.YtpmkboockihdbaaGreat
open Go _root_.Go.Proofs.Tryz
instance:bH prog 72 4 32 (.agg #[Value.int IntKind.i64 0,Value.int IntKind.i64 0,Value.int IntKind.i64 0,Value.int IntKind.u32 0]):=dN Tryz.t72
instance:bH prog 152 1 24 (.slice none 0 0):=dN Tryz.t152
instance:bH prog 154 10 96 (.agg #[.pointer none,Value.int IntKind.i64 0,Value.int IntKind.i64 0,Value.int IntKind.i64 0,Value.int IntKind.i64 0,Value.int IntKind.i64 0,Value.int IntKind.i64 0,Value.int IntKind.u32 0,Value.int IntKind.i64 0,.slice none 0 0]):=dN Tryz.t154
instance:bH prog 157 2 16 (.agg #[Value.int IntKind.i64 0,.nilFunc]):=dN Tryz.t157
instance:aO prog 53 (.slice 72):=⟨underlying53⟩
instance:aO prog 58 (.pointer 154):=⟨underlying58⟩
instance:aO prog 152 (.slice 157):=⟨underlying152⟩
instance:aO prog 155 (Tryz.t155.desc):=⟨underlying155⟩
instance:gY (Tryz.t156.desc):=⟨by kernel_rfl⟩
instance:aO prog 157 (Tryz.t156.desc):=⟨underlying157⟩
instance:Fa prog 72 0 0:=aW Tryz.t2 underlying72 rfl
instance:Fa prog 72 1 1:=aW Tryz.t2 underlying72 rfl
instance:Fa prog 72 2 2:=aW Tryz.t2 underlying72 rfl
instance:Fa prog 72 3 3:=aW Tryz.t46 underlying72 rfl
instance:Pl prog 154 [(0,1),(1,2),(3,1),(4,1),(5,1),(6,1),(7,1),(8,1),(9,1)]:=⟨_,underlying154,fun w=>by kernel_rfl⟩
instance:Fa prog 154 0 0:=aW Tryz.t33 underlying154 rfl
instance:Fa prog 154 1 1:=aW Tryz.t44 underlying154 rfl
instance:Fa prog 154 2 3:=aW Tryz.t2 underlying154 rfl
instance:Fa prog 154 3 4:=aW Tryz.t2 underlying154 rfl
instance:Fa prog 154 4 5:=aW Tryz.t2 underlying154 rfl
instance:Fa prog 154 5 6:=aW Tryz.t2 underlying154 rfl
instance:Fa prog 154 6 7:=aW Tryz.t46 underlying154 rfl
instance:Fa prog 154 7 8:=aW Tryz.t3 underlying154 rfl
instance:Fa prog 154 8 9:=aW Tryz.t152 underlying154 rfl
instance:Pl prog 157 [(0,1),(1,1)]:=⟨_,underlying157,fun w=>by kernel_rfl⟩
instance:Fa prog 157 0 0:=aW Tryz.t3 underlying157 rfl
instance:Fa prog 157 1 1:=aW Tryz.t155 underlying157 rfl
instance:Cl prog 11:=⟨call11⟩
instance:Cl prog 17:=⟨call17⟩
instance:Cl prog 18:=⟨call18⟩
instance:Cl prog 19:=⟨call19⟩
instance:Cl prog 20:=⟨call20⟩
instance:Cl prog 21:=⟨call21⟩
instance:Cl prog 22:=⟨call22⟩
instance:Cl prog 23:=⟨call23⟩
instance:Cl prog 25:=⟨call25⟩
instance:Cl prog 28:=⟨call28⟩
instance:Cl prog 40:=⟨call40⟩
instance:Cl prog 44:=⟨call44⟩
instance:Cl prog 48:=⟨call48⟩
instance:Cl prog 50:=⟨call50⟩
instance:Cl prog 69:=⟨call69⟩
instance:Cl prog 70:=⟨call70⟩
instance:Cl prog 71:=⟨call71⟩
instance:Cl prog 72:=⟨call72⟩
instance:Cl prog 73:=⟨call73⟩
instance:Cl prog 74:=⟨call74⟩
instance:Cl prog 75:=⟨call75⟩
instance:Cl prog 85:=⟨call85⟩
instance:bW Tryz.f22 [Go.ResultVar.cell 4 67]:=⟨rfl⟩
instance:bW Tryz.f28 [Go.ResultVar.cell 2 44]:=⟨rfl⟩
instance:bW Tryz.f50 [Go.ResultVar.cell 2 124]:=⟨rfl⟩
instance:bW Tryz.f85 [Go.ResultVar.cell 8 67]:=⟨rfl⟩
end Go.Proofs.YtpmkboockihdbaaGreat
namespace Go.Proofs.YtpmkboockihdbaaGreat
open Go.RowKit _root_.Go.Proofs.Tryz
section
variable {P:Program} {w0:World} {W:Nat→Prop} {H:List HE}
theorem bDo{t e:TypeId}[h:aO P t (.pointer e)]:P.underlying t=some (.pointer (P.pointee t)):=by have:=h.h;rw[this,Program.pointee,this]
instance (t u e:TypeId)(x y:Operand)(p:Addr)[aO P t (.pointer e)]:MS P w0 W H (.binOp .eql t x y u) [.pointer (some p),.pointer none] (.bool false) True :=
 ⟨fun _ _ _ _ _ _ _ _ _ _ _ _ _ _ h1 h2 h3=>dS aE rfl h2 (fun a w ha hw=>by obtain⟨p,q⟩:=dH h1;simp[execOp,ha.eval p,ha.eval q,eqGuard,run_eql_pointer_nil w t _ (bDo (t:=t) (e:=e))]) h3⟩
instance (t u e:TypeId)(x y:Operand)[aO P t (.pointer e)]:MS P w0 W H (.binOp .eql t x y u) [.pointer none,.pointer none] (.bool true) True :=
 ⟨fun _ _ _ _ _ _ _ _ _ _ _ _ _ _ h1 h2 h3=>dS aE rfl h2 (fun a w ha hw=>by obtain⟨p,q⟩:=dH h1;simp[execOp,ha.eval p,ha.eval q,eqGuard,run_eql_pointer_nil w t _ (bDo (t:=t) (e:=e))]) h3⟩
end
section
variable {F:Fence} {n:Nat} {P:Program} {N:Nat} {ds:List Deferred} {w0:World} {W:Nat→Prop} {σ:List (Nat×Value)} {H:List HE} {Q:Exit→Act→World→Prop}
variable {ops:Array Oper} {rest:List Oper} {d:Nat} {ty:TypeId} {pos:String} {aft:Array Edge} {gd:Option (Nat×Bool)} {v:Value}
variable {dst:Nat} {f:FuncId} {args:Array Operand} {ts:Array TypeId} {us:List Value} {S R:List HE} {Rl:Value→List HE→Prop}
end
section
variable {P:Program} {w0:World} {W:Nat→Prop} {H:List HE}
end
section
variable {F:Fence} {n:Nat} {P:Program} {N:Nat} {ds:List Deferred} {w0:World} {W:Nat→Prop} {σ:List (Nat×Value)} {H:List HE} {Q:Exit→Act→World→Prop}
variable {ops:Array Oper} {rest:List Oper} {d:Nat} {ty:TypeId} {pos:String} {aft:Array Edge} {gd:Option (Nat×Bool)} {q:Act→World→Prop}
end
section
variable {n:Nat} {P:Program} {N:Nat} {w0:World} {W:Nat→Prop} {σ:List (Nat×Value)} {H:List HE}
theorem bC5{fn:Func}{t u y:Tmp}{v x z:Value}{S':List HE}{Rl:Value→List HE→Prop}(hres:fn.results=#[.tmp t,.tmp u,.tmp y])(hv:aH σ t=some v)(hx:aH σ u=some x)(hz:aH σ y=some z)(hs:aA S' H)(hR:Rl (.tuple #[v,x,z]) S'):J N [] w0 W σ H (bodyPost P fn (fun e w'=>∃v S',e=.returned v∧Rl v S'∧St w0 W S' w') .ret) :=
 fun a w ha hw=>⟨ha.defers,_,Go.results_tmp3 hres _ _ _,_,S',by rw[rZ ha hv,rZ ha hx,rZ ha hz],hR,hw.sub hs⟩
end
section
variable {α:Type} {e:α→List Value} {s:Nat}
instance (priority:=90) [Inhabited α](l:List α)[h:pX e s]:aEk (aR e l) 0 s (e (l.getD 0 default)) (0<l.length):=⟨fun hi=>⟨h.h.1 _,fun j u hu=>by
 have hk:j<s:=by rw[← h.h.1 (l.getD 0 default)];exact(List.getElem?_eq_some_iff.1 hu).1
 have:=aD5 (e:=e) l 0 j hi hk;rw[Nat.zero_mul]at this;rw[this];exact hu⟩⟩
end
instance (priority:=200) (w0:World)(W:Nat→Prop)(b off i s k:Nat)(xs:List Value)(v:Value)(c:Prop)[h:aC8 w0 W b off xs][he:rM xs (i*s+k) v c]:aEr w0 W b (off+i*s+k) v c:=⟨fun hc=>⟨h.h.1,h.h.2.1,by rw[Nat.add_assoc];exact h.h.2.2 _ v (he.h hc)⟩⟩
section
variable {P:Program} {w0:World} {W:Nat→Prop} {H:List HE}
end
instance (k s t a b c:Int):tW dR [.int .i64 k,.int .u16 s,.int .u32 t,.int .i32 a,.int .i32 b,.int .i32 c] ⟨k,s,t,a,b,c⟩:=⟨rfl⟩
theorem yH.one{ys:List Int}{i:Nat}{a b:Int}(h:yH ys i a)(g:yH ys i b):a=b:=by rcases h with⟨rfl,h1⟩ | ⟨h1,⟨rfl,h2⟩ | ⟨rfl,h2⟩⟩<;>rcases g with⟨rfl,g1⟩ | ⟨g1,⟨rfl,g2⟩ | ⟨rfl,g2⟩⟩<;>first|rfl|contradiction
theorem pI.one{ys:List Int}{a b:Int}(h:pI ys a)(g:pI ys b):a=b:=by
 rcases h with⟨h1,h2⟩ | ⟨h1,i,hi,h2,h3,h4⟩ | ⟨h1,h2,h3⟩<;>rcases g with⟨g1,g2⟩ | ⟨g1,k,hk,g2,g3,g4⟩ | ⟨g1,g2,g3⟩
 ·rw[← h2,g2]
 ·omega
 ·omega
 ·omega
 ·have e:i=k:=by
   rcases Nat.lt_trichotomy i k with e|e|e
   ·obtain⟨z,hz⟩:=g4 i e;exact absurd hz (h3 z)
   ·exact e
   ·obtain⟨z,hz⟩:=h4 k e;exact absurd hz (g3 z)
  subst e;exact h2.one g2
 ·obtain⟨z,hz⟩:=g3 i hi;exact absurd hz (h3 z)
 ·omega
 ·obtain⟨z,hz⟩:=h3 k hk;exact absurd hz (g3 z)
 ·rw[h2,g2]
theorem bEv(t u:TypeId)(x y:Operand)(a b c d:Int)(ht:t=44):PV prog (.binOp .eql t x y u) [.agg #[.int .i64 a,.int .i64 b],.agg #[.int .i64 c,.int .i64 d]] (.bool (a==c&&b==d)) True:=⟨by
 subst ht;rintro _ ρ ⟨dst,op',ty,pos,aft,gd⟩ rfl h w;obtain⟨h1,h2⟩:=qZ h;have u2:=underlying2;have a2:=Tryz.isAgg2;have z2:=Tryz.sizeOf2;have hS:prog.underlying 44=some (.struct (prog.fieldsOf 44)):=by kernel_rfl
 have hp:prog.stoodInHeld 44=false:=by kernel_rfl
 have hm:prog.eqGuardType prog.depth 44=false:=by kernel_rfl
 simp only[execOp,h1,h2,Sem.run_bind,run_eqGuard_agg w _ _ _ _ _ _ hm,Result.andThen_ok];rw[run_eql_struct,show (10000:Nat)=9999+1 from rfl,run_equalIn_agg w 9999 44 _ _ hS hp];simp only[Program.fieldsOf,underlying44]
 go_simp
 by_cases h1:a=c<;>by_cases h2:b=d<;>simp[h1,h2]⟩
instance (u:TypeId)(x y:Operand)(a b c d:Int):PV prog (.binOp .eql 44 x y u) [.agg #[.int .i64 a,.int .i64 b],.agg #[.int .i64 c,.int .i64 d]] (.bool (a==c&&b==d)) True:=bEv _ u x y a b c d rfl
instance {w0:World}{W:Nat→Prop}{H:List HE}(u:TypeId)(x y:Operand)(a b c d:Int):MS prog w0 W H (.binOp .eql 44 x y u) [.agg #[.int .i64 a,.int .i64 b],.agg #[.int .i64 c,.int .i64 d]] (.bool (a==c&&b==d)) True:=⟨by intro _ F n N ds σ dd ty pos aft gd K Q _ hv hdN h;exact dS aE rfl hdN (fun a w ha _=>aDq (o:=⟨some dd,_,ty,pos,aft,gd⟩) hv trivial a.eval (fun x _ u hu=>ha.eval hu) w) h⟩
section
variable {F:Fence} {n:Nat} {P:Program} {N:Nat} {ds:List Deferred} {w0:World} {W:Nat→Prop} {σ:List (Nat×Value)} {H R:List HE} {Q:Exit→Act→World→Prop} {K:Act→World→Prop}
variable {d:Nat} {ty:TypeId} {pos:String} {aft:Array Edge} {gd:Option (Nat×Bool)} {o:Oper} {ops:Array Oper} {rest:List Oper}
instance (priority:=50) (fn:Fn)(first:Array Operand)(vs:List Value):MS P w0 W H (.makeFunc fn first #[]) vs (.func fn vs.toArray #[]) True:=⟨fun _ {_ _ _ _ σ _ _ _ _ _ _ _} _ h1 h2 h3=>aZg (xs:=vs.toArray) (ys:=#[]) (fun a ha=>⟨by
 have h1':vals σ first.toList=some vs:=by simpa [Op.operands] using h1
 have:=bCf h1' a ha;rw[← this];apply Array.ext';simp,aE⟩) h2 h3⟩
end
def inB(x far:Int):Bool:=decide (-far≤x∧x≤far)
instance (x far:Int):kI (inB x far) (-far≤x∧x≤far):=⟨by simp[inB]⟩
structure Wv where
 x:Int
 y:Int
 high:Int
 off:Int
 dx:Int
 dy:Int
 time:Int
 told:Int
@[reducible] def aIr(g:Nat)(v:Wv)(t:Nat):List Value:=[.pointer (some ⟨g,0,none⟩),.int .i64 v.x,.int .i64 v.y,.int .i64 v.high,.int .i64 v.off,.int .i64 v.dx,.int .i64 v.dy,.int .u32 v.time,.int .i64 v.told,.slice (some ⟨t,0,none⟩) 3 3]
abbrev aQ9(b:Nat):Nat×Nat→List Value:=fun p=>[.int .i64 p.1,.func (.func p.2) #[.pointer (some ⟨b,0,none⟩)] #[]]
instance (b:Nat):pX (aQ9 b) 2:=⟨fun _=>rfl,od⟩
instance:qN (Tryz.t155.desc):=⟨by kernel_rfl⟩
def aQe:List (Nat×Nat):=[(1,73),(3,74),(2,75)]
@[reducible] def eT.W(K:eT)(s:dU)(b t:Nat)(v:Wv):List HE:=K.HC s [.blk b 154 (aIr K.g v t),.row (.slice (some ⟨t,0,none⟩) 3 3) 157 2 3 (aR (aQ9 b) aQe)]
structure Wv.ok(v:Wv)(b:Int):Prop where
 x : -1048576≤v.x∧v.x≤1048576
 y : -1048576≤v.y∧v.y≤1048576
 high : -1048576≤v.high∧v.high≤1048576
 off : -1048576≤v.off∧v.off≤1048576
 dx : -65536≤v.dx∧v.dx≤65536
 dy : -65536≤v.dy∧v.dy≤65536
 time:0≤v.time∧v.time<4294967296
 told:0≤v.told∧v.told≤b
attribute [local irreducible] OJ J bO Code.wpIn wpListIn Oper.wpIn bodyPost CallsIn aF
theorem bFa(x far:Int)(hf:0≤far∧far<4294967296)(w:World):aF prog 72 [.int .i64 x,.int .i64 far] [] w (fun v S'=>v=.bool (inB x far)∧S'=[]):=by refine aJ func72 rfl ntmps72 rfl ⟨aE,.nil⟩ (fun n=>?_);simp only[aG];refine aB;all_goals exact aK rfl rfl (.nil _) ⟨congrArg Value.bool (by unfold inB;rw[Bool.eq_iff_iff];simp only[decide_eq_true_eq,Bool.and_eq_true,Bool.false_eq_true,false_iff,true_iff];omega),rfl⟩
instance win_cv(x far:Int):CV prog 72 [.int .i64 x,.int .i64 far] (.bool (inB x far)) (0≤far∧far<4294967296):=⟨fun h w=>bFa x far h w⟩
theorem bDh(K:eT)(s:dU)(f:List Int)(b t:Nat)(v:Wv)(m:Int)(w:World)(hown:aZ (K.W s b t v) w)(hF:kJ K.ys f K.room)(h:cV K.ys f K.room s m)(hm:m≤900000000000000000):
  aF prog 70 [.pointer (some ⟨b,0,none⟩)] (K.W s b t v) w (fun r S'=>∃s',r=.tuple #[.int .i64 (lI (wY K.ys) (hY K.ys) f v.x v.y),.bool (eN (wY K.ys) (hY K.ys) f v.x v.y==0)]∧cV K.ys f K.room s' (m+4)∧S'=K.W s' b t v):=by
 refine aJ func70 rfl ntmps70 rfl hown (fun n=>?_);simp only[aG];refine aB;refine fL [.blk b 154 (aIr K.g v t)] (0::1::2::3::4::5::6::7::8::9::10::11::12::13::[]) aA.au ?_;intro _;refine gP;refine lf rfl rfl rfl (S:=K.H s) (fun w hw ho=>aG7 K s f v.x v.y m w ho hF h hm) ?_;rintro r S' ⟨s',rfl,k1,rfl⟩;refine gP;exact cM rfl rfl rfl aA.au ⟨s',rfl,k1,rfl⟩
theorem bEm(K:eT)(s:dU)(b t:Nat)(v:Wv)(w:World)(hown:aZ (K.W s b t v) w):
  aF prog 73 [.pointer (some ⟨b,0,none⟩)] (K.W s b t v) w (fun r S'=>r=.tuple #[.int .i64 v.dx,.int .i64 v.dy,.bool true]∧S'=K.W s b t v):=by
 refine aJ func73 rfl ntmps73 rfl hown (fun n=>?_);simp only[aG];refine aB;exact bC5 rfl rfl rfl rfl aA.au ⟨rfl,rfl⟩
theorem bDy(K:eT)(s:dU)(b t:Nat)(v:Wv)(m:Int)(hv:v.ok m)(w:World)(hown:aZ (K.W s b t v) w):
  aF prog 74 [.pointer (some ⟨b,0,none⟩)] (K.W s b t v) w (fun r S'=>r=.tuple #[.int .i64 (v.high+v.off),.int .i64 0,.bool true]∧S'=K.W s b t v):=by
 refine aJ func74 rfl ntmps74 rfl hown (fun n=>?_);have h1:=hv.high;have h2:=hv.off;simp only[aG];refine aB;exact bC5 rfl rfl rfl rfl aA.au ⟨rfl,rfl⟩
def aIx(v:Wv)(z e:Int):Bool:=decide (e=0∧z≤v.high∧v.high-z≤1048576)
theorem bEr(K:eT)(s:dU)(f:List Int)(b t:Nat)(v:Wv)(m bb:Int)(hv:v.ok bb)(w:World)(hown:aZ (K.W s b t v) w)(hF:kJ K.ys f K.room)(h:cV K.ys f K.room s m)(hm:m≤900000000000000000):
  aF prog 75 [.pointer (some ⟨b,0,none⟩)] (K.W s b t v) w (fun r S'=>∃s',r=.tuple #[.int .i64 (v.high-lI (wY K.ys) (hY K.ys) f v.x v.y),.int .i64 0,.bool (aIx v (lI (wY K.ys) (hY K.ys) f v.x v.y) (eN (wY K.ys) (hY K.ys) f v.x v.y))]∧cV K.ys f K.room s' (m+4)∧S'=K.W s' b t v):=by
 have hz:=aG6 hF.good.1 (W:=wY K.ys) (H:=hY K.ys) v.x v.y;have hh:=hv.high;refine aJ func75 rfl ntmps75 rfl hown (fun n=>?_);simp only[aG];refine aB;refine lf rfl rfl rfl (S:=K.W s b t v) (fun w hw ho=>bDh K s f b t v m w ho hF h hm) ?_;rintro r S' ⟨s',rfl,k1,rfl⟩;generalize lI (wY K.ys) (hY K.ys) f v.x v.y=z at *;generalize eN (wY K.ys) (hY K.ys) f v.x v.y=e at *;refine aB;refine kC (0::1::2::3::4::5::6::7::8::9::10::11::12::13::14::15::16::17::18::19::20::21::22::23::24::25::26::[]) ?_;intro _;refine gP;all_goals exact bC5 rfl rfl rfl rfl aA.au ⟨s',congrArg (fun q=>Value.tuple #[.int .i64 (v.high-z),.int .i64 0,.bool q]) (by unfold aIx;rw[Bool.eq_iff_iff];simp only[decide_eq_true_eq,Bool.and_eq_true,beq_iff_eq,Bool.false_eq_true,false_iff,true_iff]at *;omega),k1,rfl⟩
def eH(v:Wv)(kind a b:Int):jH:=⟨kind,(v.told+1)%65536,v.time,a,b,0⟩
theorem aM4(K:eT)(s:dU)(b t:Nat)(v:Wv)(bb kind x y:Int)(hv:v.ok bb)(hb:bb≤1000000)(hx:aP .i32 x)(hy:aP .i32 y)(w:World)(hown:aZ (K.W s b t v) w):
  aF prog 85 [.pointer (some ⟨b,0,none⟩),.int .i64 kind,.int .i64 x,.int .i64 y] (K.W s b t v) w (fun r S'=>r=.agg (dR (eH v kind x y)).toArray∧S'=K.W s b t { v with told:=v.told+1 }):=by
 have hh:=hv.told;have hx1 : -2147483648≤x∧x≤2147483647:=hx;have hy1 : -2147483648≤y∧y≤2147483647:=hy;have e1:IntKind.u16.wrap (v.told+1)=(v.told+1)%65536:=by simp[IntKind.wrap,IntKind.bits,IntKind.signed]
 refine aJ func85 rfl ntmps85 rfl hown (fun n=>?_);simp only[aG];refine aB;refine fL [.blk b 154 (aIr K.g { v with told:=v.told+1 } t)] (0::1::2::3::4::5::6::7::8::9::10::11::12::13::14::15::[]) aA.au ?_;intro _;refine gP;rw[e1];refine eD (S':=K.W s b t { v with told:=v.told+1 }) aA.au ?_;refine cY;exact⟨rfl,rfl⟩
theorem bF7(K:eT)(s:dU)(b t:Nat)(v:Wv)(w:World)(hown:aZ (K.W s b t v) w):
  aF prog 28 [.pointer (some ⟨b,0,none⟩)] (K.W s b t v) w (fun r S'=>r=.agg #[.int .i64 v.x,.int .i64 v.y]∧S'=K.W s b t v):=by
 refine aJ func28 rfl ntmps28 rfl hown (fun n=>?_);simp only[aG];refine aB;refine eD (S':=K.W s b t v) aA.au ?_;refine cY;exact⟨rfl,rfl⟩
theorem bF9(K:eT)(s:dU)(b t:Nat)(v:Wv)(w:World)(hown:aZ (K.W s b t v) w):
  aF prog 71 [.pointer (some ⟨b,0,none⟩)] (K.W s b t v) w (fun r S'=>r=.int .i64 v.high∧S'=K.W s b t v):=by
 refine aJ func71 rfl ntmps71 rfl hown (fun n=>?_);simp only[aG];refine aB;exact aK rfl rfl aA.au ⟨rfl,rfl⟩
theorem bFd(K:eT)(s:dU)(b t:Nat)(v:Wv)(w:World)(hown:aZ (K.W s b t v) w):
  aF prog 69 [.pointer (some ⟨b,0,none⟩)] (K.W s b t v) w (fun r S'=>r=.tuple #[.int .u32 v.time,.int .i64 v.told]∧S'=K.W s b t v):=by
 refine aJ func69 rfl ntmps69 rfl hown (fun n=>?_);simp only[aG];refine aB;exact cM rfl rfl rfl aA.au ⟨rfl,rfl⟩
def goC(v:Wv)(dx dy up ms:Int):Int :=
 if ¬((-65536≤dx∧dx≤65536)∧(-65536≤dy∧dy≤65536)∧(-65536≤up∧up≤65536)∧ms≤60000)then 2 else
 if ¬((-1048576≤v.x+dx∧v.x+dx≤1048576)∧(-1048576≤v.y+dy∧v.y+dy≤1048576)∧(-1048576≤v.high+up∧v.high+up≤1048576))then 9 else 0
@[reducible] def goV(v:Wv)(dx dy up ms:Int):Wv:=⟨v.x+dx,v.y+dy,v.high+up,v.off,dx,dy,(v.time+ms)%4294967296,v.told⟩
def goL(v:Wv)(z e:Int):List jH :=
 if aIx v z e=true then [eH v 1 v.dx v.dy,eH { v with told:=v.told+1 } 3 (v.high+v.off) 0,eH { v with told:=v.told+2 } 2 (v.high-z) 0]else [eH v 1 v.dx v.dy,eH { v with told:=v.told+1 } 3 (v.high+v.off) 0]
def goT(v:Wv)(z e:Int):Wv×List jH:=({ v with told:=v.told+(goL v z e).length },goL v z e)
def eE(W H:Nat)(f:List Int)(v:Wv)(dx dy up ms:Int):Wv×List jH×Int :=
 if goC v dx dy up ms=0 then ((goT (goV v dx dy up ms) (lI W H f (v.x+dx) (v.y+dy)) (eN W H f (v.x+dx) (v.y+dy))).1,(goT (goV v dx dy up ms) (lI W H f (v.x+dx) (v.y+dy)) (eN W H f (v.x+dx) (v.y+dy))).2,0)else (v,[],goC v dx dy up ms)
theorem bBb{v:Wv}{b dx dy up ms:Int}(h:v.ok b)(hc:goC v dx dy up ms=0):(goV v dx dy up ms).ok b:=by
 unfold goC at hc;split at hc
 ·exact absurd hc od
 split at hc
 ·exact absurd hc od
 ·rename_i h1 h2;have h1:=Decidable.not_not.1 h1;have h2:=Decidable.not_not.1 h2;exact⟨h2.1,h2.2.1,h2.2.2,h.off,h1.1,h1.2.1,⟨Int.emod_nonneg _ od,Int.emod_lt_of_pos _ od⟩,h.told⟩
def fY(v:Wv)(z e:Int):Nat→List jH
 | 0=>[]
 | 1=>[eH v 1 v.dx v.dy]
 | 2=>[eH v 1 v.dx v.dy,eH { v with told:=v.told+1 } 3 (v.high+v.off) 0]
 | _=>goL v z e
def loV(v:Wv)(z e:Int)(i:Nat):Wv:={ v with told:=v.told+(fY v z e i).length }
theorem bDl(v:Wv)(z e:Int):loV v z e 0=v:=by unfold loV;simp[fY]
theorem bDk{v:Wv}{b:Int}(h:v.ok b)(z e:Int)(i:Nat):(loV v z e i).ok (b+3):=by
 have hl:(fY v z e i).length≤3:=by
  match i with
  | 0=>exact Nat.zero_le _
  | 1=>show 1≤3;omega
  | 2=>show 2≤3;omega
  | n+3=>show (goL v z e).length≤3;unfold goL;split<;>simp
 have ht:=h.told;refine⟨h.x,h.y,h.high,h.off,h.dx,h.dy,h.time,?_⟩;show 0≤v.told+_∧v.told+_≤b+3;omega
theorem aQ0(K:eT)(s:dU)(f:List Int)(b t:Nat)(v:Wv)(m bb:Int)(hv:v.ok bb)(hb:bb≤100000)(dx dy up ms:Int)(hdx:aP .i64 dx)(hdy:aP .i64 dy)(hup:aP .i64 up)(lJ:aP .u32 ms)(w:World)(hown:aZ (K.W s b t v) w)(hF:kJ K.ys f K.room)(h:cV K.ys f K.room s m)(hm:m≤900000000000000000):
  aF prog 23 [.pointer (some ⟨b,0,none⟩),.int .i64 dx,.int .i64 dy,.int .i64 up,.int .u32 ms] (K.W s b t v) w
   (fun r S'=>∃s' A c,r=.tuple #[.slice A (eE (wY K.ys) (hY K.ys) f v dx dy up ms).2.1.length c,.int .i64 (eE (wY K.ys) (hY K.ys) f v dx dy up ms).2.2]∧cV K.ys f K.room s' (m+4) ∧
    S'=.row (.slice A (eE (wY K.ys) (hY K.ys) f v dx dy up ms).2.1.length c) 67 6 (eE (wY K.ys) (hY K.ys) f v dx dy up ms).2.1.length (aR dR (eE (wY K.ys) (hY K.ys) f v dx dy up ms).2.1)::K.W s' b t (eE (wY K.ys) (hY K.ys) f v dx dy up ms).1):=by
 have hms1:0≤ms∧ms≤4294967295:=lJ;have h1:=hv.x;have h2:=hv.y;have h3:=hv.high;have h4:=hv.time;have h5:=hv.told;refine aJ func23 rfl ntmps23 rfl hown (fun n=>?_);simp only[aG];by_cases hc:goC v dx dy up ms=0
 ·have hg:=bBb hv hc;have e:eE (wY K.ys) (hY K.ys) f v dx dy up ms=_:=if_pos hc;unfold goC at hc;split at hc
  ·exact absurd hc od
  split at hc
  ·exact absurd hc od
  rename_i g1 g2;have g1:=Decidable.not_not.1 g1;have g2:=Decidable.not_not.1 g2;refine dD (e:=67) (size:=6) ?_;refine aB;refine fL [.blk b 154 (aIr K.g v t)] (0::1::2::3::4::5::6::7::8::9::10::11::12::13::14::15::16::[]) aA.au ?_;intro _;refine gP;all_goals try (refine xS aA.au (zF (rest':=[14,16]) od ?_);refine gP)
  all_goals
   rename Nat=>b12
   refine fL [.blk b12 44 [.int .i64 (v.x+dx),.int .i64 (v.y+dy)]] (0::1::2::3::4::5::6::7::8::9::10::11::12::13::14::15::16::17::18::19::20::21::22::23::24::[]) aA.au ?_;intro _;refine gP;have ew:IntKind.u32.wrap (v.time+ms)=(v.time+ms)%4294967296:=by simp[IntKind.wrap,IntKind.bits,IntKind.signed]
   rw[ew];have hz:=aG6 hF.good.1 (W:=wY K.ys) (H:=hY K.ys) (v.x+dx) (v.y+dy);rw[e];generalize hgz:lI (wY K.ys) (hY K.ys) f (v.x+dx) (v.y+dy)=z at *;generalize hge:eN (wY K.ys) (hY K.ys) f (v.x+dx) (v.y+dy)=e0 at *;have ho:=hg.off;have hh:=hg.high;refine bT (X:=Nat×dU×Option Addr×Nat) (fun q=>q.1≤3∧cV K.ys f K.room q.2.1 (m+4*((q.1/3:Nat):Int))) (fun q=>[(0,.pointer (some ⟨b,0,none⟩)),(103,.slice (some ⟨t,0,none⟩) 3 3),(104,.int .i64 ((3:Nat):Int)),(105,.int .i64 q.1),(13,.slice q.2.2.1 (fY (goV v dx dy up ms) z e0 q.1).length q.2.2.2)])
    (fun q=>.row (.slice q.2.2.1 (fY (goV v dx dy up ms) z e0 q.1).length q.2.2.2) 67 6 (fY (goV v dx dy up ms) z e0 q.1).length (aR dR (fY (goV v dx dy up ms) z e0 q.1))::K.W q.2.1 b t (loV (goV v dx dy up ms) z e0 q.1)) (fun q=>3-q.1) (0,s,none,0) ⟨oo,by simpa using h⟩ ⟨rfl,rfl,rfl,rfl,rfl,trivial⟩ (by show aA (.row (.slice none 0 0) 67 6 0 []::K.W s b t (loV (goV v dx dy up ms) z e0 0)) _;rw[bDl];exact aA.au) ?_
   have hgz':lI (wY K.ys) (hY K.ys) f (goV v dx dy up ms).x (goV v dx dy up ms).y=z:=hgz;have hge':eN (wY K.ys) (hY K.ys) f (goV v dx dy up ms).x (goV v dx dy up ms).y=e0:=hge;generalize goV v dx dy up ms=v1 at *;have hgd:=hg.dx;have hge:=hg.dy;have hgt:=hg.told;rintro⟨i,s1,A1,c1⟩ ⟨hi,hs1⟩;have hV:=bDk hg z e0 i;dsimp only at hi hs1 ⊢;rcases Nat.lt_or_ge i 3 with hi3|hi3
   ·have hTL:aQe.length=3:=rfl;have hl3:(fY v1 z e0 0).length=0∧(fY v1 z e0 1).length=1∧(fY v1 z e0 2).length=2:=⟨rfl,rfl,rfl⟩;obtain rfl|rfl|rfl:i=0∨i=1∨i=2:=oo
    ·rw[bDl];refine aB;refine lb (f:=73) (first:=#[.pointer (some ⟨b,0,none⟩)]) (captured:=#[]) (vs:=[]) (S:=K.W s1 b t v1) rfl rfl rfl rfl (fun w hw ho=>bEm K s1 b t v1 w ho) ?_;rintro r S' ⟨rfl,rfl⟩;refine aB;refine lf rfl rfl rfl (S:=K.W s1 b t v1) (fun w hw ho=>aM4 K s1 b t v1 bb 1 v1.dx v1.dy hg oo (by show -2147483648≤_∧_≤2147483647;omega) (by show -2147483648≤_∧_≤2147483647;omega) w ho) ?_;rintro r S' ⟨rfl,rfl⟩;refine aB;rename_i A2 c2;exact aN (1,s1,A2,c2) ⟨oo,by simpa using hs1⟩ (by show 3-1<3-0;omega) ⟨rfl,rfl,rfl,rfl,rfl,trivial⟩ (by show aA (.row (.slice A2 (fY v1 z e0 0++[eH v1 1 v1.dx v1.dy]).length c2) 67 6 (fY v1 z e0 0++[eH v1 1 v1.dx v1.dy]).length (aR dR (fY v1 z e0 0++[eH v1 1 v1.dx v1.dy]))::K.W s1 b t { v1 with told:=v1.told+1 }) _;exact aA.au)
    ·rw[show loV v1 z e0 1 = { v1 with told:=v1.told+1 }from rfl]at hV ⊢;refine aB;refine lb (f:=74) (first:=#[.pointer (some ⟨b,0,none⟩)]) (captured:=#[]) (vs:=[]) (S:=K.W s1 b t { v1 with told:=v1.told+1 }) rfl rfl rfl rfl (fun w hw ho=>bDy K s1 b t _ (bb+3) hV w ho) ?_;rintro r S' ⟨rfl,rfl⟩;refine aB;refine lf rfl rfl rfl (S:=K.W s1 b t { v1 with told:=v1.told+1 }) (fun w hw ho=>aM4 K s1 b t _ (bb+3) 3 (v1.high+v1.off) 0 hV oo (by show -2147483648≤_∧_≤2147483647;omega) (by show -2147483648≤_∧_≤2147483647;omega) w ho) ?_;rintro r S' ⟨rfl,rfl⟩;refine aB;rename_i A2 c2;have eV:loV v1 z e0 2 = { v1 with told:=v1.told+1+1 }:=congrArg (fun q=>({ v1 with told:=q }:Wv)) (by show v1.told+((2:Nat):Int)=_;omega);exact aN (2,s1,A2,c2) ⟨oo,by simpa using hs1⟩ (by show 3-2<3-1;omega) ⟨rfl,rfl,rfl,rfl,rfl,trivial⟩ (by show aA (.row (.slice A2 (fY v1 z e0 1++[eH { v1 with told:=v1.told+1 } 3 (v1.high+v1.off) 0]).length c2) 67 6 (fY v1 z e0 1++[eH { v1 with told:=v1.told+1 } 3 (v1.high+v1.off) 0]).length (aR dR (fY v1 z e0 1++[eH { v1 with told:=v1.told+1 } 3 (v1.high+v1.off) 0]))::K.W s1 b t (loV v1 z e0 2)) _;rw[eV];exact aA.au)
    ·rw[show loV v1 z e0 2 = { v1 with told:=v1.told+2 }from rfl]at hV ⊢;refine aB;refine lb (f:=75) (first:=#[.pointer (some ⟨b,0,none⟩)]) (captured:=#[]) (vs:=[]) (S:=K.W s1 b t { v1 with told:=v1.told+2 }) rfl rfl rfl rfl (fun w hw ho=>bEr K s1 f b t _ m (bb+3) hV w ho hF (by simpa using hs1) hm) ?_;rintro r S' ⟨s2,rfl,k1,rfl⟩;rw[show lI (wY K.ys) (hY K.ys) f ({ v1 with told:=v1.told+2 }:Wv).x ({ v1 with told:=v1.told+2 }:Wv).y=z from hgz',show eN (wY K.ys) (hY K.ys) f ({ v1 with told:=v1.told+2 }:Wv).x ({ v1 with told:=v1.told+2 }:Wv).y=e0 from hge',show aIx ({ v1 with told:=v1.told+2 }:Wv) z e0=aIx v1 z e0 from rfl];have k2:cV K.ys f K.room s2 (m+4*((3/3:Nat):Int)):=by simpa using k1
     rcases hrb:aIx v1 z e0 with _|_
     ·refine aB;have eL:fY v1 z e0 3=fY v1 z e0 2:=by show goL v1 z e0=_;unfold goL;rw[hrb];rfl
      have eV:loV v1 z e0 3 = { v1 with told:=v1.told+2 }:=by unfold loV;rw[eL];rfl
      exact aN (3,s2,A1,c1) ⟨oo,k2⟩ (by show 3-3<3-2;omega) ⟨rfl,rfl,rfl,rfl,by simp only[eL];rfl,trivial⟩ (by simp only[eL,eV];exact aA.au)
     ·refine aB;refine lf rfl rfl rfl (S:=K.W s2 b t { v1 with told:=v1.told+2 }) (fun w hw ho=>aM4 K s2 b t _ (bb+3) 2 (v1.high-z) 0 hV oo (by show -2147483648≤_∧_≤2147483647;omega) (by show -2147483648≤_∧_≤2147483647;omega) w ho) ?_;rintro r S' ⟨rfl,rfl⟩;refine aB;rename_i A2 c2;have eL:fY v1 z e0 3=fY v1 z e0 2++[eH { v1 with told:=v1.told+2 } 2 (v1.high-z) 0]:=by show goL v1 z e0=_;unfold goL;rw[hrb];rfl
      have eV:loV v1 z e0 3 = { v1 with told:=v1.told+2+1 }:=by unfold loV;rw[eL];exact congrArg (fun q=>({ v1 with told:=q }:Wv)) (by show v1.told+((3:Nat):Int)=_;omega)
      exact aN (3,s2,A2,c2) ⟨oo,k2⟩ (by show 3-3<3-2;omega) ⟨rfl,rfl,rfl,rfl,by simp only[eL];rfl,trivial⟩ (by simp only[eL,eV];exact aA.au)
   ·obtain rfl:i=3:=oo;refine aB;exact cM rfl rfl rfl (aA.refl _) ⟨s1,A1,c1,rfl,by simpa using hs1,rfl⟩
 ·have e:eE (wY K.ys) (hY K.ys) f v dx dy up ms=(v,[],goC v dx dy up ms):=if_neg hc;rw[e];have k1:=h.mono (show m≤m+4 by omega);refine dD (e:=67) (size:=6) ?_;by_cases g1:(-65536≤dx∧dx≤65536)∧(-65536≤dy∧dy≤65536)∧(-65536≤up∧up≤65536)∧ms≤60000
  ·have e9:goC v dx dy up ms=9:=by
    unfold goC at hc ⊢;rw[if_neg (Decidable.not_not.2 g1)]at hc ⊢;split
    ·rfl
    ·rename_i g2;exact absurd (if_neg g2) hc
   have g2:¬((-1048576≤v.x+dx∧v.x+dx≤1048576)∧(-1048576≤v.y+dy∧v.y+dy≤1048576)∧(-1048576≤v.high+up∧v.high+up≤1048576)):=fun g2=>hc (by unfold goC;rw[if_neg (Decidable.not_not.2 g1),if_neg (Decidable.not_not.2 g2)]);rw[e9];refine aB;refine fL [.blk b 154 (aIr K.g v t)] (0::1::2::3::4::5::6::7::8::9::10::11::12::13::14::15::16::[]) aA.au ?_;intro _;refine gP;all_goals try (refine xS aA.au (zF (rest':=[14,16]) od ?_);refine gP)
   all_goals first
    | exact cM (S':=.row (.slice none 0 0) 67 6 0 []::K.W s b t v) rfl rfl rfl aA.au ⟨s,none,0,rfl,k1,rfl⟩
    | (exfalso;omega)
  ·have e2:goC v dx dy up ms=2:=if_pos g1;rw[e2];refine aB;all_goals first
    | exact cM (S':=.row (.slice none 0 0) 67 6 0 []::K.W s b t v) rfl rfl rfl aA.au ⟨s,none,0,rfl,k1,rfl⟩
    | (exfalso;omega)
instance (f:Fn)(xs ys:Array Value):ZC (.func f xs ys) [.func f xs ys]:=⟨rfl⟩
@[reducible] def fX(x y high off:Int):Wv:=⟨x,y,high,off,0,0,0,0⟩
def aE0(x y high off:Int):Int :=
 if ¬((-1048576≤x∧x≤1048576)∧(-1048576≤y∧y≤1048576))then 9 else
 if ¬((-1048576≤high∧high≤1048576)∧(-1048576≤off∧off≤1048576))then 2 else 0
theorem bDv{x y high off:Int}(h:aE0 x y high off=0):(fX x y high off).ok 0:=by
 unfold aE0 at h;split at h
 ·exact absurd h od
 split at h
 ·exact absurd h od
 rename_i h1 h2;have h1:=Decidable.not_not.1 h1;have h2:=Decidable.not_not.1 h2;exact⟨h1.1,h1.2,h2.1,h2.2,by simp[fX],by simp[fX],by simp[fX],by simp[fX]⟩
def bDx(ys:List Int)(x y high off:Int)(r:Value)(S':List HE):Prop :=
 (∃code:Int,code≠0∧r=.tuple #[.pointer none,.int .i64 code]∧S'=[]∧pI ys code) ∨
 (pI ys 0∧aE0 x y high off≠0∧r=.tuple #[.pointer none,.int .i64 (aE0 x y high off)]∧S'=[]) ∨
 (pI ys 0∧aE0 x y high off=0∧∃(K:eT) (b t:Nat),K.ys=ys∧K.room=8∧r=.tuple #[.pointer (some ⟨b,0,none⟩),.int .i64 0]∧S'=K.W (rD 8) b t (fX x y high off))
theorem aUu(A:Option Addr)(c:Nat)(ys:List Int)(x y high off:Int)(w:World)(hr:bF w (aV []) A ys.length c 1 (aC .u8 ys))(hu:dV ys)(hm:ys.length<100000000):
  aF prog 19 [.slice A ys.length c,.agg #[.int .i64 x,.int .i64 y],.int .i64 high,.int .i64 off] [] w (bDx ys x y high off):=by
 refine aJ func19 rfl ntmps19 rfl ⟨aE,.nil⟩ (fun n=>?_);simp only[aG];refine aB;refine lf rfl rfl rfl (S:=[]) (fun w hw ho=>aMo A c ys 8 w ⟨hr.h.go hw (aD.nil _)⟩ hu hm od) ?_;rintro v S' (⟨code,hne,rfl,rfl,⟨h,-⟩ | ⟨-,h⟩⟩ | ⟨-,h,K,hys,hrm,rfl,rfl⟩)
 ·exfalso;omega
 ·refine aB;all_goals first
   | exact cM rfl rfl rfl (.nil _) (.inl ⟨code,hne,rfl,rfl,h⟩)
   | (exfalso;omega)
 ·have hrm:K.room=8:=oo;rw[hrm];by_cases g1:(-1048576≤x∧x≤1048576)∧(-1048576≤y∧y≤1048576)
  ·by_cases g2:(-1048576≤high∧high≤1048576)∧(-1048576≤off∧off≤1048576)
   ·have e:aE0 x y high off=0:=by unfold aE0;rw[if_neg (Decidable.not_not.2 g1),if_neg (Decidable.not_not.2 g2)]
    refine aB;all_goals try (exfalso;omega)
    rename_i bw bt;exact cM (S':=K.W (rD 8) bw bt (fX x y high off)) rfl rfl rfl (by show aA (K.HC (rD 8) [.blk bw 154 (aIr K.g (fX x y high off) bt),.row (.slice (some ⟨bt,0,none⟩) 3 3) 157 2 3 [.int .i64 1,.func (.func 73) #[.pointer (some ⟨bw,0,none⟩)] #[],.int .i64 3,.func (.func 74) #[.pointer (some ⟨bw,0,none⟩)] #[],.int .i64 2,.func (.func 75) #[.pointer (some ⟨bw,0,none⟩)] #[]]]) _;exact aA.au) (.inr (.inr ⟨h,e,K,bw,bt,hys,hrm,rfl,rfl⟩))
   ·have e:aE0 x y high off=2:=by unfold aE0;rw[if_neg (Decidable.not_not.2 g1),if_pos g2]
    refine aB;all_goals first
     | exact cM rfl rfl rfl (.nil _) (.inr (.inl ⟨h,by rw[e];decide,by rw[e],rfl⟩))
     | (exfalso;omega)
  ·have e:aE0 x y high off=9:=by unfold aE0;rw[if_pos g1]
   refine aB;all_goals first
    | exact cM rfl rfl rfl (.nil _) (.inr (.inl ⟨h,by rw[e];decide,by rw[e],rfl⟩))
    | (exfalso;omega)
theorem bDw(K:eT)(s:dU)(b t:Nat)(v:Wv)(bb:Int)(q:Bool)(hv:v.ok bb)(hb:bb≤1000000)(w:World)(hown:aZ (K.W s b t v) w):
  aF prog 22 [.pointer (some ⟨b,0,none⟩),.bool q] (K.W s b t v) w (fun r S'=>r=.agg (dR (eH v 5 (if q=true then 1 else 0) 0)).toArray∧S'=K.W s b t { v with told:=v.told+1 }):=by
 refine aJ func22 rfl ntmps22 rfl hown (fun n=>?_);simp only[aG];cases q
 ·refine aB;refine lf rfl rfl rfl (S:=K.W s b t v) (fun w hw ho=>aM4 K s b t v bb 5 0 0 hv hb od od w ho) ?_;rintro r S' ⟨rfl,rfl⟩;refine aB;refine eD (S':=K.W s b t { v with told:=v.told+1 }) aA.au ?_;refine cY;exact⟨rfl,rfl⟩
 ·refine aB;refine lf rfl rfl rfl (S:=K.W s b t v) (fun w hw ho=>aM4 K s b t v bb 5 1 0 hv hb od od w ho) ?_;rintro r S' ⟨rfl,rfl⟩;refine aB;refine eD (S':=K.W s b t { v with told:=v.told+1 }) aA.au ?_;refine cY;exact⟨rfl,rfl⟩
theorem bE0(W H cell:Nat)(A:Option Addr)(c:Nat)(z:List Int)(ox oy:Int)(w:World)(hr:bF w (aV []) A z.length c 1 (aC .i16 z))(hW:2≤W∧W≤256∧2≤H∧H≤256∧1≤cell∧cell≤1000)(hz:z.length=W*H)(hin:dK z)(hox:aP .i32 ox)(hoy:aP .i32 oy):
  aF prog 18 [.agg #[.int .i64 W,.int .i64 H,.slice A z.length c,.int .i64 cell,.int .i32 ox,.int .i32 oy]] [] w (fun v S'=>∃A' c',v=.slice A' (fR W H cell ox oy z).length c'∧S'=[.row (.slice A' (fR W H cell ox oy z).length c') 5 1 (fR W H cell ox oy z).length (aC .u8 (fR W H cell ox oy z))]):=by
 refine aJ func18 rfl ntmps18 rfl ⟨aE,.nil⟩ (fun n=>?_);simp only[aG];refine aB;refine lf rfl rfl rfl (S:=[]) (fun w hw ho=>aK7 W H cell A c z ox oy w ⟨hr.h.go hw (aD.nil _)⟩ hW hz hin hox hoy) ?_;rintro v S' ⟨Ab,cb,rfl,rfl⟩;refine aB;exact aK rfl rfl aA.au ⟨Ab,cb,rfl,rfl⟩
end Go.Proofs.YtpmkboockihdbaaGreat
namespace Go.Proofs.YtpmkboockihdbaaGreat
open Go.RowKit _root_.Go.Proofs.Tryz
theorem bEp(neg:Bool)(t u:TypeId)(x y:Operand)(a b c d e f a' b' c' d' e' f':Int)(ht:t=67):PV prog (.binOp (if neg then .neq else .eql) t x y u) [.agg #[.int .i64 a,.int .u16 b,.int .u32 c,.int .i32 d,.int .i32 e,.int .i32 f],.agg #[.int .i64 a',.int .u16 b',.int .u32 c',.int .i32 d',.int .i32 e',.int .i32 f']] (.bool (neg != (a==a'&&b==b'&&c==c'&&d==d'&&e==e'&&f==f'))) True:=⟨by
 subst ht;rintro _ ρ ⟨dst,op',ty,pos,aft,gd⟩ rfl h w;obtain⟨h1,h2⟩:=qZ h;have u1:=underlying3;have a1:=Tryz.isAgg3;have z1:=Tryz.sizeOf3;have u2:=underlying32;have a2:=Tryz.isAgg32;have z2:=Tryz.sizeOf32;have u3:=underlying46;have a3:=Tryz.isAgg46;have z3:=Tryz.sizeOf46;have u4:=underlying21;have a4:=Tryz.isAgg21;have z4:=Tryz.sizeOf21;have hS:prog.underlying 67=some (.struct (prog.fieldsOf 67)):=by kernel_rfl
 have hp:prog.stoodInHeld 67=false:=by kernel_rfl
 have hm:prog.eqGuardType prog.depth 67=false:=by kernel_rfl
 have key:∀xs ys:Array Value,xs=#[.int .i64 a,.int .u16 b,.int .u32 c,.int .i32 d,.int .i32 e,.int .i32 f]→ys=#[.int .i64 a',.int .u16 b',.int .u32 c',.int .i32 d',.int .i32 e',.int .i32 f']→(Op.equalIn 10000 67 (.agg xs) (.agg ys)).run prog w=.ok (a==a'&&b==b'&&c==c'&&d==d'&&e==e'&&f==f') w:=by
  rintro _ _ rfl rfl;rw[show (10000:Nat)=9999+1 from rfl,run_equalIn_agg w 9999 67 _ _ hS hp];simp only[Program.fieldsOf,underlying67]
  go_simp
  by_cases h1:a=a'<;>by_cases h2:b=b'<;>by_cases h3:c=c'<;>by_cases h4:d=d'<;>by_cases h5:e=e'<;>by_cases h6:f=f'<;>simp[h1,h2,h3,h4,h5,h6]
 cases neg
 ·simp only[Bool.false_eq_true,if_false,execOp,h1,h2,Sem.run_bind,run_eqGuard_agg w _ _ _ _ _ _ hm,Result.andThen_ok];rw[run_eql_struct,key _ _ rfl rfl];simp
 ·simp only[if_true,execOp,h1,h2,Sem.run_bind,run_eqGuard_agg w _ _ _ _ _ _ hm,Result.andThen_ok];rw[run_neq_struct,key _ _ rfl rfl];simp⟩
theorem aQ6{P:Program}{w0:World}{W:Nat→Prop}{H:List HE}{o:BinOp}{t u:TypeId}{x y:Operand}{vs:List Value}{v:Value}(hp:PV P (.binOp o t x y u) vs v True):MS P w0 W H (.binOp o t x y u) vs v True:=⟨by intro _ F n N ds σ dd ty pos aft gd K Q _ hv hdN h;haveI:=hp;exact dS aE rfl hdN (fun a w ha _=>aDq (o:=⟨some dd,_,ty,pos,aft,gd⟩) hv trivial a.eval (fun x _ u hu=>ha.eval hu) w) h⟩
instance pv_frmE(u:TypeId)(x y:Operand)(a b c d e f a' b' c' d' e' f':Int):PV prog (.binOp .eql 67 x y u) [.agg #[.int .i64 a,.int .u16 b,.int .u32 c,.int .i32 d,.int .i32 e,.int .i32 f],.agg #[.int .i64 a',.int .u16 b',.int .u32 c',.int .i32 d',.int .i32 e',.int .i32 f']] (.bool (a==a'&&b==b'&&c==c'&&d==d'&&e==e'&&f==f')) True:=by have hp:=bEp false 67 u x y a b c d e f a' b' c' d' e' f' rfl;simp only[Bool.false_bne,Bool.false_eq_true,if_false]at hp;exact hp
instance (priority:=2000) pv_frmT(u:TypeId)(x y:Operand)(a b c d e f:Int):PV prog (.binOp .eql 67 x y u) [.agg #[.int .i64 a,.int .u16 b,.int .u32 c,.int .i32 d,.int .i32 e,.int .i32 f],.agg #[.int .i64 a,.int .u16 b,.int .u32 c,.int .i32 d,.int .i32 e,.int .i32 f]] (.bool true) True:=by have hp:=pv_frmE u x y a b c d e f a b c d e f;simp only[beq_self_eq_true,Bool.and_self]at hp;exact hp
instance inst45_1{w0:World}{W:Nat→Prop}{H:List HE}(u:TypeId)(x y:Operand)(a b c d e f a' b' c' d' e' f':Int):MS prog w0 W H (.binOp .eql 67 x y u) [.agg #[.int .i64 a,.int .u16 b,.int .u32 c,.int .i32 d,.int .i32 e,.int .i32 f],.agg #[.int .i64 a',.int .u16 b',.int .u32 c',.int .i32 d',.int .i32 e',.int .i32 f']] (.bool (a==a'&&b==b'&&c==c'&&d==d'&&e==e'&&f==f')) True:=aQ6 (pv_frmE u x y a b c d e f a' b' c' d' e' f')
instance (priority:=2000) inst45_2{w0:World}{W:Nat→Prop}{H:List HE}(u:TypeId)(x y:Operand)(a b c d e f:Int):MS prog w0 W H (.binOp .eql 67 x y u) [.agg #[.int .i64 a,.int .u16 b,.int .u32 c,.int .i32 d,.int .i32 e,.int .i32 f],.agg #[.int .i64 a,.int .u16 b,.int .u32 c,.int .i32 d,.int .i32 e,.int .i32 f]] (.bool true) True:=aQ6 (pv_frmT u x y a b c d e f)
theorem bEq(t u:TypeId)(x y:Operand)(a b:Int)(ht:t=44):PV prog (.binOp .neq t x y u) [.agg #[.int .i64 a,.int .i64 b],.agg #[.int .i64 a,.int .i64 b]] (.bool false) True:=⟨by
 subst ht;rintro _ ρ ⟨dst,op',ty,pos,aft,gd⟩ rfl h w;obtain⟨h1,h2⟩:=qZ h;have u2:=underlying2;have a2:=Tryz.isAgg2;have z2:=Tryz.sizeOf2;have hS:prog.underlying 44=some (.struct (prog.fieldsOf 44)):=by kernel_rfl
 have hp:prog.stoodInHeld 44=false:=by kernel_rfl
 have hm:prog.eqGuardType prog.depth 44=false:=by kernel_rfl
 simp only[execOp,h1,h2,Sem.run_bind,run_eqGuard_agg w _ _ _ _ _ _ hm,Result.andThen_ok];rw[run_neq_struct,show (10000:Nat)=9999+1 from rfl,run_equalIn_agg w 9999 44 _ _ hS hp];simp only[Program.fieldsOf,underlying44]
 go_simp⟩
instance (priority:=2000) inst45_5{w0:World}{W:Nat→Prop}{H:List HE}(u:TypeId)(x y:Operand)(a b:Int):MS prog w0 W H (.binOp .neq 44 x y u) [.agg #[.int .i64 a,.int .i64 b],.agg #[.int .i64 a,.int .i64 b]] (.bool false) True:=aQ6 (bEq 44 u x y a b rfl)
attribute [local irreducible] OJ J bO Code.wpIn wpListIn Oper.wpIn bodyPost CallsIn aF
def bY:List Int:=[0,10,20,30,40,50,60,70,80,90,100,110,120,130,140,150]
def wTo:Nat→List Int
 | 0=>[]
 | n+1=>wTo n++[10*(n:Int)]
theorem bF6:wTo 16=bY:=by decide +kernel
theorem bDu:∀n,(wTo n).length=n
 | 0=>rfl
 | n+1=>by rw[wTo,List.length_append,bDu n];rfl
def wV1:Wv:=⟨256,0,1000,7,0,0,0,1⟩
def wV2:Wv:=⟨512,0,1024,7,256,0,50,4⟩
def eW:Wv:=⟨512,-256,1024,7,0,-256,100,6⟩
def wL1:List jH:=[⟨1,2,50,256,0,0⟩,⟨3,3,50,1031,0,0⟩,⟨2,4,50,704,0,0⟩]
def wL2:List jH:=[⟨1,5,100,0,-256,0⟩,⟨3,6,100,1031,0,0⟩]
theorem bF3:eE 4 4 bY wV1 256 0 24 50=(wV2,wL1,0):=by kernel_rfl
theorem bF4:eE 4 4 bY wV2 0 (-256) 0 50=(eW,wL2,0):=by kernel_rfl
theorem bF5:eE 4 4 bY eW 131072 0 0 0=(eW,[],2):=by kernel_rfl
theorem bD7:(eE 4 4 bY wV1 256 0 24 50).1=wV2∧(eE 4 4 bY wV1 256 0 24 50).2.1=wL1∧(eE 4 4 bY wV1 256 0 24 50).2.2=0:=by rw[bF3];exact⟨rfl,rfl,rfl⟩
theorem bD8:(eE 4 4 bY wV2 0 (-256) 0 50).1=eW∧(eE 4 4 bY wV2 0 (-256) 0 50).2.1=wL2∧(eE 4 4 bY wV2 0 (-256) 0 50).2.2=0:=by rw[bF4];exact⟨rfl,rfl,rfl⟩
theorem bD9:(eE 4 4 bY eW 131072 0 0 0).1=eW∧(eE 4 4 bY eW 131072 0 0 0).2.1=[]∧(eE 4 4 bY eW 131072 0 0 0).2.2=2:=by rw[bF5];exact⟨rfl,rfl,rfl⟩
theorem bDt:lI 4 4 bY 512 (-256)=0∧eN 4 4 bY 512 (-256)=9:=by decide +kernel
theorem aXn:pI [] 5:=.inl ⟨od,bD⟩
theorem bFb(w:World):aF prog 17 [] [] w (fun v S'=>v=.bool true∧S'=[]):=by
 refine aJ func17 rfl ntmps17 rfl ⟨aE,.nil⟩ (fun n=>?_);simp only[aG];refine dD (e:=121) (size:=1) ?_;refine aB;rename_i b1;refine bT (X:=Nat×Option Addr×Nat) (fun q=>q.1≤16) (fun q=>[(1,.pointer (some ⟨b1,0,none⟩)),(2,.int .i64 q.1)])
  (fun q=>[.blk b1 28 [.int .i64 4,.int .i64 4,.slice q.2.1 (wTo q.1).length q.2.2],.row (.slice q.2.1 (wTo q.1).length q.2.2) 121 1 (wTo q.1).length (aC .i16 (wTo q.1))]) (fun q=>16-q.1) (0,none,0) (Nat.zero_le _) ⟨rfl,rfl,trivial⟩ (by simp only[wTo,aC,List.map_nil,List.length_nil];exact aA.au) ?_
 rintro⟨i,A1,c1⟩ hi;dsimp only at hi ⊢;have hwl:=bDu i;rcases Nat.lt_or_ge i 16 with h|h
 ·refine aB;rename_i A2 c2;exact aN (i+1,A2,c2) h (by show 16-(i+1)<16-i;omega) ⟨rfl,by simp[aH],trivial⟩ (by simp only[wTo];exact aA.au)
 ·obtain rfl:i=16:=oo;rw[bF6];have hlz:bY.length=16:=rfl;have hcb:2≤4∧4≤256∧2≤4∧4≤256∧1≤30∧30≤1000:=oo;have hz16:dK bY:=aLf od;refine aB;refine lf rfl rfl rfl (S:=[]) (fun w hw ho=>bE0 4 4 30 A1 c1 bY 0 0 w ⟨Ro.row hw (aD.nil _) (by refine bV)⟩ hcb rfl hz16 od od) ?_;rintro v S' ⟨Ab,cb,rfl,rfl⟩;have hF:=aF9 (ox:=0) (oy:=0) hcb (show bY.length=4*4 from rfl) hz16 (by omega:1≤8∧8≤32);have hget:=aJv (ox:=0) (oy:=0) hcb (show bY.length=4*4 from rfl) hz16;obtain⟨-,h2,h3,-,-,-⟩:=aAw (ox:=0) (oy:=0) (z:=bY) (W:=4) (H:=4) (cell:=30) oo;generalize fR 4 4 30 0 0 bY=bb at *;refine aB;refine lf rfl rfl rfl (S:=[]) (fun w hw ho=>aUu Ab cb bb 256 0 1000 7 w ⟨Ro.row hw (aD.nil _) (by refine bV)⟩ hF.u8 hF.len) ?_;rintro v S' (⟨code,hne,rfl,rfl,h⟩ | ⟨-,hck,-,-⟩ | ⟨-,-,K,b,t,hys,hrm,rfl,rfl⟩)
  ·exact absurd (h.one hget) hne
  ·exact absurd od hck
  refine aB;refine lf rfl rfl rfl (S:=[]) (fun w hw ho=>aUu none 0 [] 0 0 0 0 w ⟨Ro.nil _ _ _⟩ (fun _ h=>absurd h aE) od) ?_;rintro v S' (⟨code,hne,rfl,rfl,h⟩ | ⟨h,-,-,-⟩ | ⟨h,-,-⟩)
  rotate_left
  ·exact absurd (h.one aXn) od
  ·exact absurd (h.one aXn) od
  obtain rfl:code=5:=h.one aXn;refine aB;refine lf rfl rfl rfl (S:=[]) (fun w hw ho=>aUu Ab cb bb 1048577 0 0 0 w ⟨Ro.row hw (aD.nil _) (by refine bV)⟩ hF.u8 hF.len) ?_;rintro v S' (⟨code,hne,rfl,rfl,h⟩ | ⟨-,-,rfl,rfl⟩ | ⟨-,hck,-⟩)
  ·exact absurd (h.one hget) hne
  rotate_left
  ·exact absurd hck od
  rw[show aE0 1048577 0 0 0=9 by decide];rw[← hys]at h2 h3;rw[← hys,← hrm]at hF;have k0:cV K.ys bY K.room (rD 8) 0:=by rw[hrm];exact aMn oo
  refine aB;refine lf rfl rfl rfl (S:=K.W (rD 8) b t (fX 256 0 1000 7)) (fun w hw ho=>bDw K (rD 8) b t (fX 256 0 1000 7) 0 true (bDv od) oo w ho) ?_;rintro v S' ⟨rfl,rfl⟩;rw[show ({ fX 256 0 1000 7 with told:=(fX 256 0 1000 7).told+1 }:Wv)=wV1 from rfl,show eH (fX 256 0 1000 7) 5 (if true=true then 1 else 0) 0=⟨5,1,0,1,0,0⟩from rfl];have ok1:wV1.ok 100:=⟨od,od,od,od,od,od,od,od⟩;have ok2:wV2.ok 100:=⟨od,od,od,od,od,od,od,od⟩;have ok3:eW.ok 100:=⟨od,od,od,od,od,od,od,od⟩;refine aB;refine lf rfl rfl rfl (S:=K.W (rD 8) b t wV1) (fun w hw ho=>aQ0 K (rD 8) bY b t wV1 0 100 ok1 oo 256 0 24 50 od od od od w ho hF k0 oo) ?_;rintro v S' ⟨s1,Aa,ca,rfl,k1,rfl⟩;rw[h2,h3,bD7.1,bD7.2.1,bD7.2.2];refine aB;refine lf rfl rfl rfl (S:=K.W s1 b t wV2) (fun w hw ho=>aQ0 K s1 bY b t wV2 4 100 ok2 oo 0 (-256) 0 50 od od od od w ho hF (by simpa using k1) oo) ?_;rintro v S' ⟨s2,Ac,cc2,rfl,k2,rfl⟩;rw[h2,h3,bD8.1,bD8.2.1,bD8.2.2];refine aB;refine lf rfl rfl rfl (S:=K.W s2 b t eW) (fun w hw ho=>aQ0 K s2 bY b t eW 8 100 ok3 oo 131072 0 0 0 od od od od w ho hF k2 oo) ?_;rintro v S' ⟨s3,Ad,cd,rfl,k3,rfl⟩;rw[h2,h3,bD9.1,bD9.2.1,bD9.2.2];refine aB;refine lf rfl rfl rfl (S:=K.W s3 b t eW) (fun w hw ho=>bFd K s3 b t eW w ho) ?_;rintro v S' ⟨rfl,rfl⟩;refine aB;refine lf rfl rfl rfl (S:=K.W s3 b t eW) (fun w hw ho=>bDh K s3 bY b t eW 12 w ho hF k3 oo) ?_;rintro v S' ⟨s4,rfl,k4,rfl⟩;rw[h2,h3,show lI 4 4 bY eW.x eW.y=0 from bDt.1,show eN 4 4 bY eW.x eW.y=9 from bDt.2];have hw1:wL1.length=3:=rfl;have hw2:wL2.length=2:=rfl;refine sT ?_;refine uI (A:=Aa) (m:=wL1.length) (cc:=ca) oo (fun ga hga=>?_);subst hga;refine uI (A:=Ac) (m:=wL2.length) (cc:=cc2) oo (fun gc hgc=>?_);subst hgc;rw[hw1,hw2];refine aB;all_goals try (exfalso;rename_i hx;exact absurd hx bD)
  refine lk rfl rfl rfl (S:=K.W s4 b t eW) (fun w hw ho=>bF7 K s4 b t eW w ho) ?_;refine aB;all_goals try (exfalso;rename_i hx;exact absurd hx bD)
  refine lk rfl rfl rfl (S:=K.W s4 b t eW) (fun w hw ho=>bF9 K s4 b t eW w ho) ?_;refine aB;all_goals try (exfalso;rename_i hx;exact absurd hx bD)
  exact aK rfl rfl (.nil _) ⟨congrArg Value.bool bD,rfl⟩
