import Derived.Test.YtbhchphfmhmabaaGreatP18
import Derived.Test.YtbhchphfmhmabaaGreatP19
set_option maxHeartbeats 512000000
set_option maxRecDepth 4000
set_option linter.unusedVariables false
set_option linter.unusedSimpArgs false
namespace Go.Proofs.YtbhchphfmhmabaaGreat
open Go.RowKit _root_.Go.Proofs.Tryz
def uD(W H:Nat)(X Y:Int):Prop:=0≤X∧0≤Y∧X≤((W:Int)-1)*256∧Y≤((H:Int)-1)*256
instance (W H:Nat)(X Y:Int):Decidable (uD W H X Y):=by unfold uD;infer_instance
def oS(X:Int)(i:Nat):Int:=X/256+if X%256=0 then 0 else ((i:Nat):Int)
def aC7(W H:Nat)(f:List Int)(X Y:Int)(i:Nat):Int×Int:=mF W H f (oS X (i%2)) (oS Y (i/2))
def rU(W H:Nat)(f:List Int)(X Y:Int):Nat→Int
 | 0=>0
 | i+1=>if rU W H f X Y i≠0 then rU W H f X Y i else (aC7 W H f X Y i).2
def jK(W H:Nat)(f:List Int)(X Y:Int):Int:=if uD W H X Y then rU W H f X Y 4 else 9
def zT(W H:Nat)(f:List Int)(X Y:Int):Nat→List Int
 | 0=>[0,0,0,0]
 | i+1=>(zT W H f X Y i).set i (aC7 W H f X Y i).1
theorem aHz(W H:Nat)(f:List Int)(X Y:Int):∀i,(zT W H f X Y i).length=4
 | 0=>rfl
 | i+1=>by rw[zT,List.length_set,aHz W H f X Y i]
def tL(W H:Nat)(f:List Int)(X Y:Int):List Int:=if jK W H f X Y=0 then zT W H f X Y 4 else [0,0,0,0]
theorem aCn{W H:Nat}{f:List Int}(hf:fD f)(x y:Int): -32768≤(mF W H f x y).1∧(mF W H f x y).1≤32767:=by
 unfold mF;split
 ·exact⟨od,od⟩
 split
 ·exact⟨od,od⟩
 ·exact hf _
instance:rO prog 2 1:=⟨Tryz.t2,by kernel_rfl,by kernel_rfl⟩
theorem aIf{x:Int}(h:0≤x)(h2:x<4611686018427387904):bits .and .i64 x 255=x%256:=bits_mask .i64 62 od (fun n h0 h1=>by rw[IntKind.wrap_i64];omega) 8 od x h oo
section
variable {P:Program} {w0:World} {W:Nat→Prop} {H:List HE}
instance (priority:=90) (x y:Operand)(t e m b q sz j r r':Nat)(k:IntKind)(a:Int)[hu:aN P t (.array m e)][hI:rO P e sz][ha:vP a j][hm:rL j sz r][hr:nG q r r']:LV P w0 W H (.indexAddr t x y) [.pointer (some ⟨b,q,none⟩),.int k a] (.pointer (some ⟨b,r',none⟩)) (j<m):=⟨fun hc=>by have:=LV.h (P:=P) (w0:=w0) (W:=W) (H:=H) (op:=.indexAddr t x y) (vs:=[.pointer (some ⟨b,q,none⟩),.int k (j:Int)]) (v:=.pointer (some ⟨b,r',none⟩)) hc;rw[← ha.h]at this;exact this⟩
instance (priority:=90) (x y:Operand)(t e m b q sz j r r':Nat)(k:IntKind)(a:Int)[hu:aN P t (.array m e)][hI:rO P e sz][ha:vP a j][hm:rL j sz r][hr:nG q r r']:MS P w0 W H (.indexAddr t x y) [.pointer (some ⟨b,q,none⟩),.int k a] (.pointer (some ⟨b,r',none⟩)) (j<m):=by have h0:MS P w0 W H (.indexAddr t x y) [.pointer (some ⟨b,q,none⟩),.int k (j:Int)] (.pointer (some ⟨b,r',none⟩)) (j<m):=inferInstance;rw[← ha.h]at h0;exact h0
end
theorem lb0{F:Fence}{n:Nat}{P:Program}{N:Nat}{ds:List Deferred}{w0:World}{W:Nat→Prop}{σ:List (Nat×Value)}{H:List HE}{Q:Exit→Act→World→Prop}{ops:Array Oper}{rest:List Oper}{d:Nat}{ty:TypeId}{pos:String}{aft:Array Edge}{gd:Option (Nat×Bool)}[aU F]{t e m sz bs szt bst:Nat}{z ze:Value}{zs:List Value}[hu:aN P t (.array m e)][hI:bF P t szt bst z][he:bF P e sz bs ze][hz:ZC z zs](hw:bT ops σ ⟨some d,.build t #[],ty,pos,aft,gd⟩=some true)(hdN:Nat.blt d N=true)
  (h:J N ds w0 W ((d,.agg zs.toArray)::σ) H (wpListIn F n P ops Q rest)):J N ds w0 W σ H (wpListIn F n P ops Q (⟨some d,.build t #[],ty,pos,aft,gd⟩::rest)):=by
 refine jZ hw (dW aE rfl hdN (fun a w ha _=>?_) h);obtain⟨i,h3,h4,-⟩:=hI.h;obtain⟨j,h5,-,h6,-⟩:=he.h;have hb:(Instr.build t ((#[]:Array (Nat×Operand)).map fun (i,x)=>(i,a.eval x))).run P w=.ok (.agg zs.toArray) w:=by
  unfold Instr.build;have hz':(zeroValue t).run P w=.ok z w:=by simp[zeroValue,typeInfo,h3,h4]
  have hs:(sizeOf e).run P w=.ok sz w:=by simp[sizeOf,typeInfo,h5,h6]
  have hc:z.cells=zs.toArray:=by rw[← hz.h]
  simp only[Sem.run_bind,hz',Result.andThen_ok,run_underlying hu.h,hs,Array.map_empty,Instr.fill,Sem.run_pure,hc]
 simp only[execOp,Sem.run_bind,hb,Result.andThen_ok,Sem.run_pure]
attribute [local irreducible] OJ J bM Code.wpIn wpListIn Oper.wpIn bodyPost CallsIn aF
theorem aUo(W H:Nat)(A:Option Addr)(m c:Nat)(cell ox oy X Y:Int)(w:World)(hm:1≤W∧W≤1000000∧1≤H∧H≤1000000):
  aF prog 265 [.agg #[.int .i64 W,.int .i64 H,.slice A m c,.int .i64 cell,.int .i32 ox,.int .i32 oy],.agg #[.int .i64 X,.int .i64 Y]] [] w (fun v S'=>v=.bool (decide (uD W H X Y))∧S'=[]):=by
 refine aJ func265 rfl ntmps265 rfl ⟨aE,.nil⟩ (fun n=>?_);simp only[aG];refine aB;all_goals exact aM rfl rfl (.nil _) ⟨congrArg Value.bool (by rw[Bool.eq_iff_iff];simp only[decide_eq_true_eq,Bool.and_eq_true,Bool.false_eq_true,false_iff];unfold uD;omega),rfl⟩
theorem aJd(X Y:Int)(w:World)(h:(0≤X∧X<4611686018427387904)∧(0≤Y∧Y<4611686018427387904)):
  aF prog 239 [.agg #[.int .i64 X,.int .i64 Y]] [] w (fun v S'=>v=.tuple #[.int .i64 (X/256),.int .i64 (Y/256),.int .i64 (X%256),.int .i64 (Y%256)]∧S'=[]):=by
 refine aJ func239 rfl ntmps239 rfl ⟨aE,.nil⟩ (fun n=>?_);simp only[aG];rw[← aIf h.1.1 h.1.2,← aIf h.2.1 h.2.2];refine gR;all_goals (refine bK;exact⟨rfl,rfl⟩)
theorem aK8{l:List Int}(h:l.length=4):∃a b c d,l=[a,b,c,d]:=by
 match l,h with
 | [a,b,c,d],_=>exact⟨a,b,c,d,rfl⟩
theorem aUp(k:IntKind)(xs:List Int)(q:Nat)(v:Int):(aD k xs).set q (.int k v)=aD k (xs.set q v):=by unfold aD;rw[List.map_set]
theorem aPw:∀i:Nat,i<4→bits .and .i64 (i:Int) 1=((i%2:Nat):Int)
 | 0,_=>by decide
 | 1,_=>by decide
 | 2,_=>by decide
 | 3,_=>by decide
 | n+4,h=>by omega
theorem aJb{W H:Nat}{f:List Int}{X Y:Int}{i:Nat}(h:rU W H f X Y i≠0):∀k,rU W H f X Y (i+k)=rU W H f X Y i
 | 0=>rfl
 | k+1=>by rw[← Nat.add_assoc,rU,aJb h k,if_pos h]
theorem aTp(K:eH)(s:dK)(f:List Int)(X Y b:Int)(w:World)(hown:aZ (K.H s) w)(hF:jS K.ys f K.room)(h:cO K.ys f K.room s b)(hb:b≤900000000000000000):
  aF prog 238 [.pointer (some ⟨K.g,0,none⟩),.agg #[.int .i64 X,.int .i64 Y]] (K.H s) w (fun v S'=>∃s',v=.tuple #[.agg (aD .i64 (tL (wY K.ys) (hY K.ys) f X Y)).toArray,.int .i64 (jK (wY K.ys) (hY K.ys) f X Y)]∧cO K.ys f K.room s' (b+4)∧S'=K.H s'):=by
 have hrg:=hF.op.rng;unfold qB at hrg;refine aJ func238 rfl ntmps238 rfl hown (fun n=>?_);simp only[aG];refine aB;rename_i b3 b4 b6;refine kG (0::1::2::3::4::[]) ?_;intro _;refine gO;refine lk rfl rfl rfl (S:=K.H s) (fun w hw ho=>aRx K s w ho) ?_;refine gO;refine bU rfl rfl rfl (fun w _=>aUo (wY K.ys) (hY K.ys) none 0 0 _ _ _ X Y w oo) ?_;by_cases hI:uD (wY K.ys) (hY K.ys) X Y
 ·rw[decide_eq_true hI];have hI2:=hI;unfold uD at hI2;refine gO;refine bU rfl rfl rfl (fun w _=>aJd X Y w oo) ?_;refine aB;refine cG (X:=Nat×dK) (fun q=>q.1≤4∧rU (wY K.ys) (hY K.ys) f X Y q.1=0∧cO K.ys f K.room q.2 (b+q.1)) (fun q=>[(0,.pointer (some ⟨K.g,0,none⟩)),(4,.pointer (some ⟨b4,0,none⟩)),(6,.pointer (some ⟨b6,0,none⟩)),(7,.int .i64 (X/256)),(8,.int .i64 (Y/256)),(9,.int .i64 (X%256)),(10,.int .i64 (Y%256)),(29,.int .i64 q.1)])
   (fun q=>K.HC q.2 [.blk b6 357 (aD .i64 (zT (wY K.ys) (hY K.ys) f X Y q.1)),.blk b4 357 [.int .i64 0,.int .i64 0,.int .i64 0,.int .i64 0],.blk b3 33 [.int .i64 X,.int .i64 Y]]) (fun q=>4-q.1) (0,s) ⟨oo,rfl,by simpa using h⟩ ⟨rfl,rfl,rfl,rfl,rfl,rfl,rfl,rfl,trivial⟩ (by show aA (K.HC s (.blk b6 _ [.int .i64 0,.int .i64 0,.int .i64 0,.int .i64 0]::_)) _;exact aA.au) ?_
  rintro⟨i,s1⟩ ⟨hi,hc0,hs⟩;dsimp only at hi hc0 hs ⊢;have hzl:=aHz (wY K.ys) (hY K.ys) f X Y i;rcases Nat.lt_or_ge i 4 with h4|h4
  ·have ha:=aPw i h4;have hd:(i:Int)/2^1=((i/2:Nat):Int):=oo;have hci:=aCn (W:=wY K.ys) (H:=hY K.ys) hF.good.1;have ec:rU (wY K.ys) (hY K.ys) f X Y (i+1)=(aC7 (wY K.ys) (hY K.ys) f X Y i).2:=by rw[rU,if_neg (by rw[hc0];simp)]
   have ez:zT (wY K.ys) (hY K.ys) f X Y (i+1)=(zT (wY K.ys) (hY K.ys) f X Y i).set i (aC7 (wY K.ys) (hY K.ys) f X Y i).1:=rfl;have o1:kF (aD .i64 (zT (wY K.ys) (hY K.ys) f X Y i)) i (.int .i64 (mF (wY K.ys) (hY K.ys) f (oS X (i%2)) (oS Y (i/2))).1) (aD .i64 (zT (wY K.ys) (hY K.ys) f X Y (i+1))):=⟨by rw[aUp,ez];rfl,by rw[fW,hzl];exact h4⟩;have hc1:=hci (oS X (i%2)) (oS Y (i/2));refine aB;all_goals
    refine eY 44 _ rfl (v':=.int .i64 (oS X (i%2))) (congrArg (Value.int .i64) (by unfold oS;first|rw[if_pos oa]|rw[if_neg oa,ha])) ?_;refine eY 47 _ rfl (v':=.int .i64 (oS Y (i/2))) (congrArg (Value.int .i64) (by unfold oS;first|rw[if_pos oa]|rw[if_neg oa,hd])) ?_;refine lf rfl rfl rfl (S:=K.H s1) (fun w hw ho=>aKl K s1 f (oS X (i%2)) (oS Y (i/2)) (b+i) w ho hF hs oo) ?_;rintro v S' ⟨s',rfl,g1,rfl⟩;have k1:=g1.ok hF hs;refine bI;refine tH rfl ?_ ?_<;>intro h9
    ·have e4:rU (wY K.ys) (hY K.ys) f X Y (i+1+(3-i))=_:=aJb (by rw[ec];exact h9) _;rw[show i+1+(3-i)=4 by omega,ec]at e4;have e5:jK (wY K.ys) (hY K.ys) f X Y=(mF (wY K.ys) (hY K.ys) f (oS X (i%2)) (oS Y (i/2))).2:=by unfold jK;rw[if_pos hI,e4];rfl
     rw[show tL (wY K.ys) (hY K.ys) f X Y=[0,0,0,0] by unfold tL;rw[e5,if_neg h9],e5];refine bI;refine lb0 rfl rfl ?_;refine bI;refine eC (S':=K.H s') aA.au ?_;refine cZ;exact⟨s',rfl,k1.mono oo,rfl⟩
    ·refine aB;exact aR (i+1,s') ⟨h4,by rw[ec];exact Classical.not_not.1 h9,k1.mono oo⟩ (by show 4-(i+1)<4-i;omega) ⟨rfl,rfl,rfl,rfl,rfl,rfl,rfl,by simp[aI],trivial⟩ aA.au
  ·obtain rfl:i=4:=oo;have e5:jK (wY K.ys) (hY K.ys) f X Y=0:=by unfold jK;rw[if_pos hI,hc0]
   rw[show tL (wY K.ys) (hY K.ys) f X Y=zT (wY K.ys) (hY K.ys) f X Y 4 by unfold tL;rw[if_pos e5],e5];generalize zT (wY K.ys) (hY K.ys) f X Y 4=L at *;obtain⟨z0,z1,z2,z3,rfl⟩:=aK8 hzl;simp only[aD,List.map_cons,List.map_nil];refine aB;refine eC (S':=K.H s1) aA.au ?_;refine cZ;exact⟨s1,rfl,hs,rfl⟩
 ·rw[decide_eq_false hI];have ec:jK (wY K.ys) (hY K.ys) f X Y=9:=if_neg hI;have ef:tL (wY K.ys) (hY K.ys) f X Y=[0,0,0,0]:=by unfold tL;rw[ec];rfl
  rw[ec,ef];refine gO;refine eC (S':=K.H s) aA.au ?_;refine cZ;exact⟨s,rfl,h.mono oo,rfl⟩
def zA(a b c d fx fy:Int):Int:=(a*(256-fx)+b*fx)*(256-fy)+(c*(256-fx)+d*fx)*fy
def exL:List Int→Int→Int→Int
 | [a,b,c,d],fx,fy=>zA a b c d fx fy
 | _,_,_=>0
def oV(W H:Nat)(f:List Int)(X Y:Int):Int:=if jK W H f X Y=0 then (2*(exL (tL W H f X Y) (X%256) (Y%256)*16)+65536)/(2*65536)else 0
theorem aP5{W H:Nat}{f:List Int}(hf:fD f)(X Y:Int):∀i,∀z∈zT W H f X Y i,-32768≤z∧z≤32767
 | 0,z,hz=>by simp[zT]at hz;omega
 | i+1,z,hz=>by
  rw[zT]at hz;rcases List.mem_or_eq_of_mem_set hz with h|h
  ·exact aP5 hf X Y i z h
  ·rw[h];exact aCn hf _ _
theorem aK7{W H:Nat}{f:List Int}(hf:fD f)(X Y:Int):∃a b c d,tL W H f X Y=[a,b,c,d]∧(-32768≤a∧a≤32767)∧(-32768≤b∧b≤32767)∧(-32768≤c∧c≤32767)∧(-32768≤d∧d≤32767):=by
 unfold tL;split
 ·obtain⟨a,b,c,d,e⟩:=aK8 (aHz W H f X Y 4);have h:=aP5 hf (W:=W) (H:=H) X Y 4;rw[e]at h ⊢;exact⟨a,b,c,d,rfl,h a aE,h b aE,h c aE,h d aE⟩
 ·exact⟨0,0,0,0,rfl,oo,oo,oo,oo⟩
theorem aF6{a b c d fx fy:Int}(h:(-32768≤a∧a≤32767)∧(-32768≤b∧b≤32767)∧(-32768≤c∧c≤32767)∧(-32768≤d∧d≤32767))(hx:0≤fx∧fx<256)(hy:0≤fy∧fy<256):
  (-8388608≤a*(256-fx)∧a*(256-fx)≤8388608)∧(-8388608≤b*fx∧b*fx≤8388608)∧(-8388608≤c*(256-fx)∧c*(256-fx)≤8388608)∧(-8388608≤d*fx∧d*fx≤8388608) ∧
  (-4294967296≤(a*(256-fx)+b*fx)*(256-fy)∧(a*(256-fx)+b*fx)*(256-fy)≤4294967296)∧(-4294967296≤(c*(256-fx)+d*fx)*fy∧(c*(256-fx)+d*fx)*fy≤4294967296):=by
 have m1:=gY 32768 256 (a:=a) (b:=256-fx) oo oo;have m2:=gY 32768 256 (a:=b) (b:=fx) oo oo;have m3:=gY 32768 256 (a:=c) (b:=256-fx) oo oo;have m4:=gY 32768 256 (a:=d) (b:=fx) oo oo;have m5:=gY 16777216 256 (a:=a*(256-fx)+b*fx) (b:=256-fy) oo oo;have m6:=gY 16777216 256 (a:=c*(256-fx)+d*fx) (b:=fy) oo oo;omega
theorem aT6(a b c d fx fy:Int)(w:World)(h:(-32768≤a∧a≤32767)∧(-32768≤b∧b≤32767)∧(-32768≤c∧c≤32767)∧(-32768≤d∧d≤32767))(hx:0≤fx∧fx<256)(hy:0≤fy∧fy<256):
  aF prog 240 [.agg #[.int .i64 a,.int .i64 b,.int .i64 c,.int .i64 d],.int .i64 fx,.int .i64 fy] [] w (fun v S'=>v=.int .i64 (zA a b c d fx fy)∧S'=[]):=by
 obtain⟨m1,m2,m3,m4,m5,m6⟩:=aF6 h hx hy;refine aJ func240 rfl ntmps240 rfl ⟨aE,.nil⟩ (fun n=>?_);simp only[aG];refine aB;exact aM rfl rfl (.nil _) ⟨rfl,rfl⟩
theorem aFl(K:eH)(s:dK)(f:List Int)(X Y b:Int)(w:World)(hown:aZ (K.H s) w)(hF:jS K.ys f K.room)(h:cO K.ys f K.room s b)(hb:b≤900000000000000000):
  aF prog 197 [.pointer (some ⟨K.g,0,none⟩),.agg #[.int .i64 X,.int .i64 Y]] (K.H s) w (fun v S'=>∃s',v=.tuple #[.int .i64 (oV (wY K.ys) (hY K.ys) f X Y),.int .i64 (jK (wY K.ys) (hY K.ys) f X Y)]∧cO K.ys f K.room s' (b+4)∧S'=K.H s'):=by
 have hrg:=hF.op.rng;unfold qB at hrg;refine aJ func197 rfl ntmps197 rfl hown (fun n=>?_);simp only[aG];refine aB;refine lf rfl rfl rfl (S:=K.H s) (fun w hw ho=>aTp K s f X Y b w ho hF h hb) ?_;rintro v S' ⟨s',rfl,k1,rfl⟩;obtain⟨z0,z1,z2,z3,e4,hz⟩:=aK7 (W:=wY K.ys) (H:=hY K.ys) hF.good.1 X Y;unfold oV;rw[e4];simp only[aD,List.map_cons,List.map_nil,exL];by_cases hc:jK (wY K.ys) (hY K.ys) f X Y=0
 ·have hI:uD (wY K.ys) (hY K.ys) X Y:=by
   unfold jK at hc;split at hc
   ·assumption
   ·exact absurd hc od
  unfold uD at hI;rw[if_pos hc,hc];have hex:=aF6 (fx:=X%256) (fy:=Y%256) hz oo oo;have he : -8589934592≤zA z0 z1 z2 z3 (X%256) (Y%256)∧zA z0 z1 z2 z3 (X%256) (Y%256)≤8589934592:=by unfold zA;omega
  refine aB;refine bU rfl rfl rfl (fun w _=>aJd X Y w oo) ?_;refine aB;refine bU rfl rfl rfl (fun w _=>aT6 z0 z1 z2 z3 (X%256) (Y%256) w hz oo oo) ?_;refine aB;refine cY rfl rfl rfl aA.au ⟨s',?_,k1,rfl⟩;rw[yY od]
 ·rw[if_neg hc];refine aB;all_goals exact cY rfl rfl rfl aA.au ⟨s',rfl,k1,rfl⟩
theorem aOs(x d:Int)(w:World)(hd : -8≤d∧d≤8):aF prog 243 [.int .i64 x,.int .i64 d] [] w (fun v S'=>v=.int .i64 (if x < -1000∨1000<x then -1 else x+d)∧S'=[]):=by
 refine aJ func243 rfl ntmps243 rfl ⟨aE,.nil⟩ (fun n=>?_);simp only[aG];by_cases h:x < -1000∨1000<x
 ·rw[if_pos h];refine aB;all_goals first
   | exact aM rfl rfl (.nil _) ⟨rfl,rfl⟩
   | (exfalso;omega)
 ·rw[if_neg h];refine aB;all_goals first
   | (exfalso;omega)
   | exact aM rfl rfl (.nil _) ⟨rfl,rfl⟩
end Go.Proofs.YtbhchphfmhmabaaGreat
namespace Go.Proofs.YtbhchphfmhmabaaGreat
open Go.RowKit _root_.Go.Proofs.Tryz
def jB:List Int→Int
 | []=>0
 | x::r=>x+jB r
def lK:List Int→Int
 | []=>0
 | x::r=>x*x+lK r
theorem aO5:∀a b:List Int,jB (a++b)=jB a+jB b
 | [],b=>by simp[jB]
 | x::r,b=>by rw[List.cons_append,jB,jB,aO5 r b];omega
theorem aNx:∀a b:List Int,lK (a++b)=lK a+lK b
 | [],b=>by simp[lK]
 | x::r,b=>by rw[List.cons_append,lK,lK,aNx r b];omega
theorem aHg:∀l:List Int,(∀z∈l,-32768≤z∧z≤32767)→(-(32768*(l.length:Int))≤jB l∧jB l≤32768*(l.length:Int))∧0≤lK l∧lK l≤1073741824*(l.length:Int)
 | [],_=>by simp[jB,lK]
 | x::r,h=>by
  have h1:=aHg r fun z hz=>h z (List.mem_cons_of_mem _ hz);have h2:=h x (List.mem_cons_self ..);have h3:=gY 32768 32768 (a:=x) (b:=x) oo oo;have h4:0≤x*x:=by
   rcases Int.lt_or_le x 0 with h|h
   ·exact Int.le_of_lt (Int.mul_pos_of_neg_of_neg h h)
   ·exact Int.mul_nonneg h h
  simp only[jB,lK,List.length_cons];push_cast;omega
def pJ(x d:Int):Int:=if x < -1000∨1000<x then -1 else x+d
def pR(W H:Nat)(f:List Int)(x y dx dy:Int):List Int:=if (mF W H f (pJ x dx) (pJ y dy)).2=0 then [(mF W H f (pJ x dx) (pJ y dy)).1]else []
def nR(W H:Nat)(f:List Int)(x y:Int)(far:Nat)(dy:Int):Nat→List Int
 | 0=>[]
 | j+1=>nR W H f x y far dy j++pR W H f x y ((j:Int)-far) dy
def qL(W H:Nat)(f:List Int)(x y:Int)(far:Nat):Nat→List Int
 | 0=>[]
 | i+1=>qL W H f x y far i++nR W H f x y far ((i:Int)-far) (2*far+1)
theorem aU3{W H:Nat}{f:List Int}(hf:fD f)(x y dx dy:Int):(pR W H f x y dx dy).length≤1∧∀z∈pR W H f x y dx dy,-32768≤z∧z≤32767:=by
 unfold pR;split
 ·exact⟨Nat.le_refl _,fun z hz=>by rw[List.mem_singleton.1 hz];exact aCn hf _ _⟩
 ·exact⟨Nat.zero_le _,fun z hz=>by cases hz⟩
theorem aH5{W H:Nat}{f:List Int}(hf:fD f)(x y:Int)(far:Nat)(dy:Int):∀j,(nR W H f x y far dy j).length≤j∧∀z∈nR W H f x y far dy j,-32768≤z∧z≤32767
 | 0=>⟨Nat.le_refl _,fun z hz=>by cases hz⟩
 | j+1=>by
  obtain⟨h1,h2⟩:=aH5 hf (W:=W) (H:=H) x y far dy j;obtain⟨h3,h4⟩:=aU3 hf (W:=W) (H:=H) x y ((j:Int)-far) dy;rw[nR];refine⟨by rw[List.length_append];omega,fun z hz=>?_⟩;rcases List.mem_append.1 hz with h|h
  ·exact h2 z h
  ·exact h4 z h
theorem aEc{W H:Nat}{f:List Int}(hf:fD f)(x y:Int){far:Nat}(hfar:far≤8):∀i,(qL W H f x y far i).length≤17*i∧∀z∈qL W H f x y far i,-32768≤z∧z≤32767
 | 0=>⟨Nat.le_refl _,fun z hz=>by cases hz⟩
 | i+1=>by
  obtain⟨h1,h2⟩:=aEc hf (W:=W) (H:=H) x y hfar i;obtain⟨h3,h4⟩:=aH5 hf (W:=W) (H:=H) x y far ((i:Int)-far) (2*far+1);rw[qL];refine⟨by rw[List.length_append];omega,fun z hz=>?_⟩;rcases List.mem_append.1 hz with h|h
  ·exact h2 z h
  ·exact h4 z h
theorem lfc{F:Fence}{n:Nat}{P:Program}{N:Nat}{ds:List Deferred}{w0:World}{W:Nat→Prop}{σ:List (Nat×Value)}{H R S:List HE}{Q:Exit→Act→World→Prop}{ops:Array Oper}{rest:List Oper}{d:Nat}{ty:TypeId}{pos:String}{aft:Array Edge}{gd:Option (Nat×Bool)}{us:List Value}{Rl:Value→List HE→Prop}[aU F][WF F]{x:Operand}{f:FuncId}{captured:Array Value}{args:Array Operand}{ts:Array TypeId}[Cl P f]
  (hw:bT ops σ ⟨some d,.call ⟨.value x,args,ts⟩,ty,pos,aft,gd⟩=some true) (hx:ev σ x=some (.func (.func f) #[] captured)) (hv:vals σ args.toList=some us) (hdN:Nat.blt d N=true)
  (hc:∀w,St w0 W H w→aZ S w→aF P f (us++captured.toList) S w Rl) [hs:uI H S R] (h:∀v S',Rl v S'→J N ds w0 W ((d,v)::σ) (S'++R) (wpListIn F n P ops Q rest)) :
  J N ds w0 W σ H (wpListIn F n P ops Q (⟨some d,.call ⟨.value x,args,ts⟩,ty,pos,aft,gd⟩::rest)) :=
 jZ hw (aM1 hx hv hs.h hc fun v S' hr a w ha hw=>h v S' hr _ _ (ha.put d v (by simpa using hdN)) hw)
@[reducible] def vH(bs bq bn:Nat)(L:List Int):List HE:=[.blk bs 2 [.int .i64 (jB L)],.blk bq 2 [.int .i64 (lK L)],.blk bn 2 [.int .i64 (L.length:Nat)]]
@[reducible] def zO(K:eH)(bf bc bx by' far:Nat)(x y:Int)(T:List HE):List HE:=.blk bf 3 [.int .i64 far]::.blk bc 115 [.pointer (some ⟨K.g,0,none⟩)]::.blk bx 3 [.int .i64 x]::.blk by' 3 [.int .i64 y]::T
@[reducible] def aEa(bs bq bn:Nat):Value:=.func (.func 244) #[] #[.pointer (some ⟨bs,0,none⟩),.pointer (some ⟨bq,0,none⟩),.pointer (some ⟨bn,0,none⟩)]
attribute [local irreducible] OJ J bM Code.wpIn wpListIn Oper.wpIn bodyPost CallsIn aF
theorem bA7(bs bq bn:Nat)(L:List Int)(z:Int)(w:World)(hown:aZ (vH bs bq bn L) w)(hL:∀z∈L,-32768≤z∧z≤32767)(hl:L.length≤1000)(hz : -32768≤z∧z≤32767):
  aF prog 244 [.int .i64 z,.pointer (some ⟨bs,0,none⟩),.pointer (some ⟨bq,0,none⟩),.pointer (some ⟨bn,0,none⟩)] (vH bs bq bn L) w (fun v S'=>S'=vH bs bq bn (L++[z])):=by
 have h1:=aHg L hL;have h3:=gY 32768 32768 (a:=z) (b:=z) oo oo;refine aJ func244 rfl ntmps244 rfl hown (fun n=>?_);simp only[aG];refine aB;rw[show jB L+z=jB (L++[z]) by rw[aO5];simp[jB],show lK L+z*z=lK (L++[z]) by rw[aNx];simp[lK],show (L.length:Int)+1=((L++[z]).length:Nat) by simp];exact nN rfl aA.au rfl
theorem bA6(K:eH)(s:dK)(f:List Int)(x y b:Int)(far bf bc bx by' bs bq bn:Nat)(w:World)(hfar:far≤8)(hF:jS K.ys f K.room)(h:cO K.ys f K.room s b)(hb:b≤900000000000000000)
  (hown:aZ (K.HC s (zO K bf bc bx by' far x y (vH bs bq bn []))) w) :
  aF prog 241 [aEa bs bq bn,.pointer (some ⟨bf,0,none⟩),.pointer (some ⟨bc,0,none⟩),.pointer (some ⟨bx,0,none⟩),.pointer (some ⟨by',0,none⟩)] (K.HC s (zO K bf bc bx by' far x y (vH bs bq bn []))) w
   (fun v S'=>∃s',cO K.ys f K.room s' (b+400)∧S'=K.HC s' (zO K bf bc bx by' far x y (vH bs bq bn (qL (wY K.ys) (hY K.ys) f x y far (2*far+1))))):=by
 refine aJ func241 rfl ntmps241 rfl hown (fun n=>?_);simp only[aG];refine aB;refine cG (X:=Nat×dK) (fun q=>q.1≤2*far+1∧cO K.ys f K.room q.2 (b+17*q.1)) (fun q=>[(0,aEa bs bq bn),(1,.pointer (some ⟨bf,0,none⟩)),(2,.pointer (some ⟨bc,0,none⟩)),(3,.pointer (some ⟨bx,0,none⟩)),(4,.pointer (some ⟨by',0,none⟩)),(6,.int .i64 ((q.1:Int)-far))])
  (fun q=>K.HC q.2 (zO K bf bc bx by' far x y (vH bs bq bn (qL (wY K.ys) (hY K.ys) f x y far q.1)))) (fun q=>2*far+1-q.1) (0,s) ⟨oo,by simpa using h⟩ ⟨rfl,rfl,rfl,rfl,rfl,by simp[aI],trivial⟩ (aA.refl _) ?_
 rintro⟨i,s1⟩ ⟨hi,hs1⟩;dsimp only at hi hs1 ⊢;obtain⟨a1,a2⟩:=aEc hF.good.1 (W:=wY K.ys) (H:=hY K.ys) x y hfar i;rcases Nat.lt_or_ge i (2*far+1) with h1|h1
 ·refine aB;refine cG (X:=Nat×dK) (fun q=>q.1≤2*far+1∧cO K.ys f K.room q.2 (b+17*i+q.1)) (fun q=>[(0,aEa bs bq bn),(1,.pointer (some ⟨bf,0,none⟩)),(2,.pointer (some ⟨bc,0,none⟩)),(3,.pointer (some ⟨bx,0,none⟩)),(4,.pointer (some ⟨by',0,none⟩)),(6,.int .i64 ((i:Int)-far)),(7,.int .i64 ((q.1:Int)-far))])
   (fun q=>K.HC q.2 (zO K bf bc bx by' far x y (vH bs bq bn (qL (wY K.ys) (hY K.ys) f x y far i++nR (wY K.ys) (hY K.ys) f x y far ((i:Int)-far) q.1)))) (fun q=>2*far+1-q.1) (0,s1) ⟨oo,by simpa using hs1⟩ ⟨rfl,rfl,rfl,rfl,rfl,rfl,by simp[aI],trivial⟩ (by rw[show nR (wY K.ys) (hY K.ys) f x y far ((i:Int)-far) 0=[]from rfl,List.append_nil];exact aA.refl _) ?_
  rintro⟨j,s2⟩ ⟨hj,hs2⟩;dsimp only at hj hs2 ⊢;obtain⟨c1,c2⟩:=aH5 hF.good.1 (W:=wY K.ys) (H:=hY K.ys) x y far ((i:Int)-far) j;have hlen:(qL (wY K.ys) (hY K.ys) f x y far i++nR (wY K.ys) (hY K.ys) f x y far ((i:Int)-far) j).length≤1000:=by rw[List.length_append];omega
  have hmem:∀z∈qL (wY K.ys) (hY K.ys) f x y far i++nR (wY K.ys) (hY K.ys) f x y far ((i:Int)-far) j,-32768≤z∧z≤32767:=fun z hz=>by
   rcases List.mem_append.1 hz with h|h
   ·exact a2 z h
   ·exact c2 z h
  rcases Nat.lt_or_ge j (2*far+1) with h2|h2
  ·have er:nR (wY K.ys) (hY K.ys) f x y far ((i:Int)-far) (j+1)=nR (wY K.ys) (hY K.ys) f x y far ((i:Int)-far) j++pR (wY K.ys) (hY K.ys) f x y ((j:Int)-far) ((i:Int)-far):=rfl;generalize hLe:qL (wY K.ys) (hY K.ys) f x y far i=LA at *;refine aB;refine fJ [.blk bc 115 [.pointer (some ⟨K.g,0,none⟩)],.blk bx 3 [.int .i64 x],.blk by' 3 [.int .i64 y]] (0::1::2::3::4::5::6::7::8::9::10::11::12::[]) aA.au ?_;intro _;refine gO;refine bU rfl rfl rfl (fun w _=>aOs x ((j:Int)-far) w oo) ?_;refine gO;refine bU rfl rfl rfl (fun w _=>aOs y ((i:Int)-far) w oo) ?_;refine gO;refine lf rfl rfl rfl (S:=K.H s2) (fun w hw ho=>aKl K s2 f (pJ x ((j:Int)-far)) (pJ y ((i:Int)-far)) (b+17*i+j) w ho hF hs2 oo) ?_;rintro v S' ⟨s3,rfl,g1,rfl⟩;have k1:=g1.ok hF hs2;have hz:=aCn (W:=wY K.ys) (H:=hY K.ys) hF.good.1 (pJ x ((j:Int)-far)) (pJ y ((i:Int)-far));have ex:pR (wY K.ys) (hY K.ys) f x y ((j:Int)-far) ((i:Int)-far)=if (mF (wY K.ys) (hY K.ys) f (pJ x ((j:Int)-far)) (pJ y ((i:Int)-far))).2=0 then [(mF (wY K.ys) (hY K.ys) f (pJ x ((j:Int)-far)) (pJ y ((i:Int)-far))).1]else []:=rfl;generalize mF (wY K.ys) (hY K.ys) f (pJ x ((j:Int)-far)) (pJ y ((i:Int)-far))=hh at *;refine gO
   ·rename_i h0;refine lfc rfl rfl rfl rfl (S:=vH bs bq bn (LA++nR (wY K.ys) (hY K.ys) f x y far ((i:Int)-far) j)) (fun w hw ho=>bA7 bs bq bn _ hh.1 w ho hmem hlen hz) ?_;rintro v S' rfl;refine aB;rw[List.append_assoc,show nR (wY K.ys) (hY K.ys) f x y far ((i:Int)-far) j++[hh.1]=nR (wY K.ys) (hY K.ys) f x y far ((i:Int)-far) (j+1) by rw[er,ex,if_pos h0]]
    trace_state
    exact aR (j+1,s3) ⟨h2,by have:=k1.mono (by omega:b+17*i+j+1≤b+17*i+(j+1:Nat));exact this⟩ (by show 2*far+1-(j+1)<2*far+1-j;omega) ⟨rfl,rfl,rfl,rfl,rfl,rfl,by simp[aI];omega,trivial⟩ aA.au
   ·rename_i h0;rw[show nR (wY K.ys) (hY K.ys) f x y far ((i:Int)-far) j=nR (wY K.ys) (hY K.ys) f x y far ((i:Int)-far) (j+1) by rw[er,ex,if_neg h0,List.append_nil]];exact aR (j+1,s3) ⟨h2,by have:=k1.mono (by omega:b+17*i+j+1≤b+17*i+(j+1:Nat));exact this⟩ (by show 2*far+1-(j+1)<2*far+1-j;omega) ⟨rfl,rfl,rfl,rfl,rfl,rfl,by simp[aI];omega,trivial⟩ aA.au
  ·obtain rfl:j=2*far+1:=oo;refine aB;exact aR (i+1,s2) ⟨h1,hs2.mono oo⟩ (by show 2*far+1-(i+1)<2*far+1-i;omega) ⟨rfl,rfl,rfl,rfl,rfl,by simp[aI];omega,trivial⟩ (aA.refl _)
 ·obtain rfl:i=2*far+1:=oo;refine aB;exact nN rfl (aA.refl _) ⟨s1,hs1.mono oo,rfl⟩
