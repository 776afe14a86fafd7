import Derived.Test.YtpmkboockihdbaaGreatP18
import Derived.Test.YtpmkboockihdbaaGreatP19
set_option maxHeartbeats 512000000
set_option maxRecDepth 4000
set_option linter.unusedVariables false
set_option linter.unusedSimpArgs false
namespace Go.Proofs.YtpmkboockihdbaaGreat
open Go.RowKit _root_.Go.Proofs.Tryz
def jR(W H:Nat)(X Y:Int):Prop:=0≤X∧0≤Y∧X≤((W:Int)-1)*256∧Y≤((H:Int)-1)*256
instance (W H:Nat)(X Y:Int):Decidable (jR W H X Y):=by unfold jR;infer_instance
def jT(X:Int)(i:Nat):Int:=X/256+if X%256=0 then 0 else ((i:Nat):Int)
def uD(W H:Nat)(f:List Int)(X Y:Int)(i:Nat):Int×Int:=jP W H f (jT X (i%2)) (jT Y (i/2))
def oS(W H:Nat)(f:List Int)(X Y:Int):Nat→Int
 | 0=>0
 | i+1=>if oS W H f X Y i≠0 then oS W H f X Y i else (uD W H f X Y i).2
def eN(W H:Nat)(f:List Int)(X Y:Int):Int:=if jR W H X Y then oS W H f X Y 4 else 9
def zT(W H:Nat)(f:List Int)(X Y:Int):Nat→List Int
 | 0=>[0,0,0,0]
 | i+1=>(zT W H f X Y i).set i (uD W H f X Y i).1
theorem aIq(W H:Nat)(f:List Int)(X Y:Int):∀i,(zT W H f X Y i).length=4
 | 0=>rfl
 | i+1=>by rw[zT,List.length_set,aIq W H f X Y i]
def qT(W H:Nat)(f:List Int)(X Y:Int):List Int:=if eN W H f X Y=0 then zT W H f X Y 4 else [0,0,0,0]
theorem xB{W H:Nat}{f:List Int}(hf:dK f)(x y:Int): -32768≤(jP W H f x y).1∧(jP W H f x y).1≤32767:=by
 unfold jP;split
 ·exact⟨od,od⟩
 split
 ·exact⟨od,od⟩
 ·exact hf _
instance:rO prog 2 1:=⟨Tryz.t2,by kernel_rfl,by kernel_rfl⟩
theorem aJ6{x:Int}(h:0≤x)(h2:x<4611686018427387904):bits .and .i64 x 255=x%256:=bits_mask .i64 62 od (fun n h0 h1=>by rw[IntKind.wrap_i64];omega) 8 od x h oo
section
variable {P:Program} {w0:World} {W:Nat→Prop} {H:List HE}
instance (priority:=90) (x y:Operand)(t e m b q sz j r r':Nat)(k:IntKind)(a:Int)[hu:aO P t (.array m e)][hI:rO P e sz][ha:uY a j][hm:rN j sz r][hr:nR q r r']:LV P w0 W H (.indexAddr t x y) [.pointer (some ⟨b,q,none⟩),.int k a] (.pointer (some ⟨b,r',none⟩)) (j<m):=⟨fun hc=>by have:=LV.h (P:=P) (w0:=w0) (W:=W) (H:=H) (op:=.indexAddr t x y) (vs:=[.pointer (some ⟨b,q,none⟩),.int k (j:Int)]) (v:=.pointer (some ⟨b,r',none⟩)) hc;rw[← ha.h]at this;exact this⟩
instance (priority:=90) (x y:Operand)(t e m b q sz j r r':Nat)(k:IntKind)(a:Int)[hu:aO P t (.array m e)][hI:rO P e sz][ha:uY a j][hm:rN j sz r][hr:nR q r r']:MS P w0 W H (.indexAddr t x y) [.pointer (some ⟨b,q,none⟩),.int k a] (.pointer (some ⟨b,r',none⟩)) (j<m):=by have h0:MS P w0 W H (.indexAddr t x y) [.pointer (some ⟨b,q,none⟩),.int k (j:Int)] (.pointer (some ⟨b,r',none⟩)) (j<m):=inferInstance;rw[← ha.h]at h0;exact h0
end
theorem lb0{F:Fence}{n:Nat}{P:Program}{N:Nat}{ds:List Deferred}{w0:World}{W:Nat→Prop}{σ:List (Nat×Value)}{H:List HE}{Q:Exit→Act→World→Prop}{ops:Array Oper}{rest:List Oper}{d:Nat}{ty:TypeId}{pos:String}{aft:Array Edge}{gd:Option (Nat×Bool)}[aX F]{t e m sz bs szt bst:Nat}{z ze:Value}{zs:List Value}[hu:aO P t (.array m e)][hI:bH P t szt bst z][he:bH P e sz bs ze][hz:ZC z zs](hw:cB ops σ ⟨some d,.build t #[],ty,pos,aft,gd⟩=some true)(hdN:Nat.blt d N=true)
  (h:J N ds w0 W ((d,.agg zs.toArray)::σ) H (wpListIn F n P ops Q rest)):J N ds w0 W σ H (wpListIn F n P ops Q (⟨some d,.build t #[],ty,pos,aft,gd⟩::rest)):=by
 refine kT hw (dS aE rfl hdN (fun a w ha _=>?_) h);obtain⟨i,h3,h4,-⟩:=hI.h;obtain⟨j,h5,-,h6,-⟩:=he.h;have hb:(Instr.build t ((#[]:Array (Nat×Operand)).map fun (i,x)=>(i,a.eval x))).run P w=.ok (.agg zs.toArray) w:=by
  unfold Instr.build;have hz':(zeroValue t).run P w=.ok z w:=by simp[zeroValue,typeInfo,h3,h4]
  have hs:(sizeOf e).run P w=.ok sz w:=by simp[sizeOf,typeInfo,h5,h6]
  have hc:z.cells=zs.toArray:=by rw[← hz.h]
  simp only[Sem.run_bind,hz',Result.andThen_ok,run_underlying hu.h,hs,Array.map_empty,Instr.fill,Sem.run_pure,hc]
 simp only[execOp,Sem.run_bind,hb,Result.andThen_ok,Sem.run_pure]
attribute [local irreducible] OJ J bO Code.wpIn wpListIn Oper.wpIn bodyPost CallsIn aF
theorem aV8(W H:Nat)(A:Option Addr)(m c:Nat)(cell ox oy X Y:Int)(w:World)(hm:1≤W∧W≤1000000∧1≤H∧H≤1000000):
  aF prog 164 [.agg #[.int .i64 W,.int .i64 H,.slice A m c,.int .i64 cell,.int .i32 ox,.int .i32 oy],.agg #[.int .i64 X,.int .i64 Y]] [] w (fun v S'=>v=.bool (decide (jR W H X Y))∧S'=[]):=by
 refine aJ func164 rfl ntmps164 rfl ⟨aE,.nil⟩ (fun n=>?_);simp only[aG];refine aB;all_goals exact aK rfl rfl (.nil _) ⟨congrArg Value.bool (by rw[Bool.eq_iff_iff];simp only[decide_eq_true_eq,Bool.and_eq_true,Bool.false_eq_true,false_iff];unfold jR;omega),rfl⟩
theorem aK3(X Y:Int)(w:World)(h:(0≤X∧X<4611686018427387904)∧(0≤Y∧Y<4611686018427387904)):
  aF prog 112 [.agg #[.int .i64 X,.int .i64 Y]] [] w (fun v S'=>v=.tuple #[.int .i64 (X/256),.int .i64 (Y/256),.int .i64 (X%256),.int .i64 (Y%256)]∧S'=[]):=by
 refine aJ func112 rfl ntmps112 rfl ⟨aE,.nil⟩ (fun n=>?_);simp only[aG];rw[← aJ6 h.1.1 h.1.2,← aJ6 h.2.1 h.2.2];refine jG;all_goals (refine bI;exact⟨rfl,rfl⟩)
theorem aKy{l:List Int}(h:l.length=4):∃a b c d,l=[a,b,c,d]:=by
 match l,h with
 | [a,b,c,d],_=>exact⟨a,b,c,d,rfl⟩
theorem aV9(k:IntKind)(xs:List Int)(q:Nat)(v:Int):(aC k xs).set q (.int k v)=aC k (xs.set q v):=by unfold aC;rw[List.map_set]
theorem aQm:∀i:Nat,i<4→bits .and .i64 (i:Int) 1=((i%2:Nat):Int)
 | 0,_=>by decide
 | 1,_=>by decide
 | 2,_=>by decide
 | 3,_=>by decide
 | n+4,h=>by omega
theorem aFe{W H:Nat}{f:List Int}{X Y:Int}{i:Nat}(h:oS W H f X Y i≠0):∀k,oS W H f X Y (i+k)=oS W H f X Y i
 | 0=>rfl
 | k+1=>by rw[← Nat.add_assoc,oS,aFe h k,if_pos h]
theorem aUb(K:eT)(s:dU)(f:List Int)(X Y b:Int)(w:World)(hown:aZ (K.H s) w)(hF:kJ K.ys f K.room)(h:cV K.ys f K.room s b)(hb:b≤900000000000000000):
  aF prog 111 [.pointer (some ⟨K.g,0,none⟩),.agg #[.int .i64 X,.int .i64 Y]] (K.H s) w (fun v S'=>∃s',v=.tuple #[.agg (aC .i64 (qT (wY K.ys) (hY K.ys) f X Y)).toArray,.int .i64 (eN (wY K.ys) (hY K.ys) f X Y)]∧cV K.ys f K.room s' (b+4)∧S'=K.H s'):=by
 have hrg:=hF.op.rng;unfold rE at hrg;refine aJ func111 rfl ntmps111 rfl hown (fun n=>?_);simp only[aG];refine aB;rename_i b3 b4 b6;refine kC (0::1::2::3::4::[]) ?_;intro _;refine gP;refine lk rfl rfl rfl (S:=K.H s) (fun w hw ho=>aSm K s w ho) ?_;refine gP;refine bQ rfl rfl rfl (fun w _=>aV8 (wY K.ys) (hY K.ys) none 0 0 _ _ _ X Y w oo) ?_;by_cases hI:jR (wY K.ys) (hY K.ys) X Y
 ·rw[decide_eq_true hI];have hI2:=hI;unfold jR at hI2;refine gP;refine bQ rfl rfl rfl (fun w _=>aK3 X Y w oo) ?_;refine aB;refine bT (X:=Nat×dU) (fun q=>q.1≤4∧oS (wY K.ys) (hY K.ys) f X Y q.1=0∧cV K.ys f K.room q.2 (b+q.1)) (fun q=>[(0,.pointer (some ⟨K.g,0,none⟩)),(4,.pointer (some ⟨b4,0,none⟩)),(6,.pointer (some ⟨b6,0,none⟩)),(7,.int .i64 (X/256)),(8,.int .i64 (Y/256)),(9,.int .i64 (X%256)),(10,.int .i64 (Y%256)),(29,.int .i64 q.1)])
   (fun q=>K.HC q.2 [.blk b6 193 (aC .i64 (zT (wY K.ys) (hY K.ys) f X Y q.1)),.blk b4 193 [.int .i64 0,.int .i64 0,.int .i64 0,.int .i64 0],.blk b3 44 [.int .i64 X,.int .i64 Y]]) (fun q=>4-q.1) (0,s) ⟨oo,rfl,by simpa using h⟩ ⟨rfl,rfl,rfl,rfl,rfl,rfl,rfl,rfl,trivial⟩ (by show aA (K.HC s (.blk b6 _ [.int .i64 0,.int .i64 0,.int .i64 0,.int .i64 0]::_)) _;exact aA.au) ?_
  rintro⟨i,s1⟩ ⟨hi,hc0,hs⟩;dsimp only at hi hc0 hs ⊢;have hzl:=aIq (wY K.ys) (hY K.ys) f X Y i;rcases Nat.lt_or_ge i 4 with h4|h4
  ·have ha:=aQm i h4;have hd:(i:Int)/2^1=((i/2:Nat):Int):=oo;have hci:=xB (W:=wY K.ys) (H:=hY K.ys) hF.good.1;have ec:oS (wY K.ys) (hY K.ys) f X Y (i+1)=(uD (wY K.ys) (hY K.ys) f X Y i).2:=by rw[oS,if_neg (by rw[hc0];simp)]
   have ez:zT (wY K.ys) (hY K.ys) f X Y (i+1)=(zT (wY K.ys) (hY K.ys) f X Y i).set i (uD (wY K.ys) (hY K.ys) f X Y i).1:=rfl;have o1:jL (aC .i64 (zT (wY K.ys) (hY K.ys) f X Y i)) i (.int .i64 (jP (wY K.ys) (hY K.ys) f (jT X (i%2)) (jT Y (i/2))).1) (aC .i64 (zT (wY K.ys) (hY K.ys) f X Y (i+1))):=⟨by rw[aV9,ez];rfl,by rw[gN,hzl];exact h4⟩;have hc1:=hci (jT X (i%2)) (jT Y (i/2));refine aB;all_goals
    refine eX 44 _ rfl (v':=.int .i64 (jT X (i%2))) (congrArg (Value.int .i64) (by unfold jT;first|rw[if_pos oa]|rw[if_neg oa,ha])) ?_;refine eX 47 _ rfl (v':=.int .i64 (jT Y (i/2))) (congrArg (Value.int .i64) (by unfold jT;first|rw[if_pos oa]|rw[if_neg oa,hd])) ?_;refine lf rfl rfl rfl (S:=K.H s1) (fun w hw ho=>aLc K s1 f (jT X (i%2)) (jT Y (i/2)) (b+i) w ho hF hs oo) ?_;rintro v S' ⟨s',rfl,g1,rfl⟩;have k1:=g1.ok hF hs;refine bN;refine sP rfl ?_ ?_<;>intro h9
    ·have e4:oS (wY K.ys) (hY K.ys) f X Y (i+1+(3-i))=_:=aFe (by rw[ec];exact h9) _;rw[show i+1+(3-i)=4 by omega,ec]at e4;have e5:eN (wY K.ys) (hY K.ys) f X Y=(jP (wY K.ys) (hY K.ys) f (jT X (i%2)) (jT Y (i/2))).2:=by unfold eN;rw[if_pos hI,e4];rfl
     rw[show qT (wY K.ys) (hY K.ys) f X Y=[0,0,0,0] by unfold qT;rw[e5,if_neg h9],e5];refine bN;refine lb0 rfl rfl ?_;refine bN;refine eD (S':=K.H s') aA.au ?_;refine cY;exact⟨s',rfl,k1.mono oo,rfl⟩
    ·refine aB;exact aN (i+1,s') ⟨h4,by rw[ec];exact Classical.not_not.1 h9,k1.mono oo⟩ (by show 4-(i+1)<4-i;omega) ⟨rfl,rfl,rfl,rfl,rfl,rfl,rfl,by simp[aH],trivial⟩ aA.au
  ·obtain rfl:i=4:=oo;have e5:eN (wY K.ys) (hY K.ys) f X Y=0:=by unfold eN;rw[if_pos hI,hc0]
   rw[show qT (wY K.ys) (hY K.ys) f X Y=zT (wY K.ys) (hY K.ys) f X Y 4 by unfold qT;rw[if_pos e5],e5];generalize zT (wY K.ys) (hY K.ys) f X Y 4=L at *;obtain⟨z0,z1,z2,z3,rfl⟩:=aKy hzl;simp only[aC,List.map_cons,List.map_nil];refine aB;refine eD (S':=K.H s1) aA.au ?_;refine cY;exact⟨s1,rfl,hs,rfl⟩
 ·rw[decide_eq_false hI];have ec:eN (wY K.ys) (hY K.ys) f X Y=9:=if_neg hI;have ef:qT (wY K.ys) (hY K.ys) f X Y=[0,0,0,0]:=by unfold qT;rw[ec];rfl
  rw[ec,ef];refine gP;refine eD (S':=K.H s) aA.au ?_;refine cY;exact⟨s,rfl,h.mono oo,rfl⟩
def yP(a b c d fx fy:Int):Int:=(a*(256-fx)+b*fx)*(256-fy)+(c*(256-fx)+d*fx)*fy
def exL:List Int→Int→Int→Int
 | [a,b,c,d],fx,fy=>yP a b c d fx fy
 | _,_,_=>0
def lI(W H:Nat)(f:List Int)(X Y:Int):Int:=if eN W H f X Y=0 then (2*(exL (qT W H f X Y) (X%256) (Y%256)*16)+65536)/(2*65536)else 0
theorem aPx{W H:Nat}{f:List Int}(hf:dK f)(X Y:Int):∀i,∀z∈zT W H f X Y i,-32768≤z∧z≤32767
 | 0,z,hz=>by simp[zT]at hz;omega
 | i+1,z,hz=>by
  rw[zT]at hz;rcases List.mem_or_eq_of_mem_set hz with h|h
  ·exact aPx hf X Y i z h
  ·rw[h];exact xB hf _ _
theorem aKx{W H:Nat}{f:List Int}(hf:dK f)(X Y:Int):∃a b c d,qT W H f X Y=[a,b,c,d]∧(-32768≤a∧a≤32767)∧(-32768≤b∧b≤32767)∧(-32768≤c∧c≤32767)∧(-32768≤d∧d≤32767):=by
 unfold qT;split
 ·obtain⟨a,b,c,d,e⟩:=aKy (aIq W H f X Y 4);have h:=aPx hf (W:=W) (H:=H) X Y 4;rw[e]at h ⊢;exact⟨a,b,c,d,rfl,h a aE,h b aE,h c aE,h d aE⟩
 ·exact⟨0,0,0,0,rfl,oo,oo,oo,oo⟩
theorem aFs{a b c d fx fy:Int}(h:(-32768≤a∧a≤32767)∧(-32768≤b∧b≤32767)∧(-32768≤c∧c≤32767)∧(-32768≤d∧d≤32767))(hx:0≤fx∧fx<256)(hy:0≤fy∧fy<256):
  (-8388608≤a*(256-fx)∧a*(256-fx)≤8388608)∧(-8388608≤b*fx∧b*fx≤8388608)∧(-8388608≤c*(256-fx)∧c*(256-fx)≤8388608)∧(-8388608≤d*fx∧d*fx≤8388608) ∧
  (-4294967296≤(a*(256-fx)+b*fx)*(256-fy)∧(a*(256-fx)+b*fx)*(256-fy)≤4294967296)∧(-4294967296≤(c*(256-fx)+d*fx)*fy∧(c*(256-fx)+d*fx)*fy≤4294967296):=by
 have m1:=fU 32768 256 (a:=a) (b:=256-fx) oo oo;have m2:=fU 32768 256 (a:=b) (b:=fx) oo oo;have m3:=fU 32768 256 (a:=c) (b:=256-fx) oo oo;have m4:=fU 32768 256 (a:=d) (b:=fx) oo oo;have m5:=fU 16777216 256 (a:=a*(256-fx)+b*fx) (b:=256-fy) oo oo;have m6:=fU 16777216 256 (a:=c*(256-fx)+d*fx) (b:=fy) oo oo;omega
theorem aTs(a b c d fx fy:Int)(w:World)(h:(-32768≤a∧a≤32767)∧(-32768≤b∧b≤32767)∧(-32768≤c∧c≤32767)∧(-32768≤d∧d≤32767))(hx:0≤fx∧fx<256)(hy:0≤fy∧fy<256):
  aF prog 113 [.agg #[.int .i64 a,.int .i64 b,.int .i64 c,.int .i64 d],.int .i64 fx,.int .i64 fy] [] w (fun v S'=>v=.int .i64 (yP a b c d fx fy)∧S'=[]):=by
 obtain⟨m1,m2,m3,m4,m5,m6⟩:=aFs h hx hy;refine aJ func113 rfl ntmps113 rfl ⟨aE,.nil⟩ (fun n=>?_);simp only[aG];refine aB;exact aK rfl rfl (.nil _) ⟨rfl,rfl⟩
theorem aG7(K:eT)(s:dU)(f:List Int)(X Y b:Int)(w:World)(hown:aZ (K.H s) w)(hF:kJ K.ys f K.room)(h:cV K.ys f K.room s b)(hb:b≤900000000000000000):
  aF prog 56 [.pointer (some ⟨K.g,0,none⟩),.agg #[.int .i64 X,.int .i64 Y]] (K.H s) w (fun v S'=>∃s',v=.tuple #[.int .i64 (lI (wY K.ys) (hY K.ys) f X Y),.int .i64 (eN (wY K.ys) (hY K.ys) f X Y)]∧cV K.ys f K.room s' (b+4)∧S'=K.H s'):=by
 have hrg:=hF.op.rng;unfold rE at hrg;refine aJ func56 rfl ntmps56 rfl hown (fun n=>?_);simp only[aG];refine aB;refine lf rfl rfl rfl (S:=K.H s) (fun w hw ho=>aUb K s f X Y b w ho hF h hb) ?_;rintro v S' ⟨s',rfl,k1,rfl⟩;obtain⟨z0,z1,z2,z3,e4,hz⟩:=aKx (W:=wY K.ys) (H:=hY K.ys) hF.good.1 X Y;unfold lI;rw[e4];simp only[aC,List.map_cons,List.map_nil,exL];by_cases hc:eN (wY K.ys) (hY K.ys) f X Y=0
 ·have hI:jR (wY K.ys) (hY K.ys) X Y:=by
   unfold eN at hc;split at hc
   ·assumption
   ·exact absurd hc od
  unfold jR at hI;rw[if_pos hc,hc];have hex:=aFs (fx:=X%256) (fy:=Y%256) hz oo oo;have he : -8589934592≤yP z0 z1 z2 z3 (X%256) (Y%256)∧yP z0 z1 z2 z3 (X%256) (Y%256)≤8589934592:=by unfold yP;omega
  refine aB;refine bQ rfl rfl rfl (fun w _=>aK3 X Y w oo) ?_;refine aB;refine bQ rfl rfl rfl (fun w _=>aTs z0 z1 z2 z3 (X%256) (Y%256) w hz oo oo) ?_;refine aB;refine cM rfl rfl rfl aA.au ⟨s',?_,k1,rfl⟩;rw[vM od]
 ·rw[if_neg hc];refine aB;all_goals exact cM rfl rfl rfl aA.au ⟨s',rfl,k1,rfl⟩
theorem aPk(x d:Int)(w:World)(hd : -8≤d∧d≤8):aF prog 116 [.int .i64 x,.int .i64 d] [] w (fun v S'=>v=.int .i64 (if x < -1000∨1000<x then -1 else x+d)∧S'=[]):=by
 refine aJ func116 rfl ntmps116 rfl ⟨aE,.nil⟩ (fun n=>?_);simp only[aG];by_cases h:x < -1000∨1000<x
 ·rw[if_pos h];refine aB;all_goals first
   | exact aK rfl rfl (.nil _) ⟨rfl,rfl⟩
   | (exfalso;omega)
 ·rw[if_neg h];refine aB;all_goals first
   | (exfalso;omega)
   | exact aK rfl rfl (.nil _) ⟨rfl,rfl⟩
end Go.Proofs.YtpmkboockihdbaaGreat
namespace Go.Proofs.YtpmkboockihdbaaGreat
open Go.RowKit _root_.Go.Proofs.Tryz
def fI:List Int→Int
 | []=>0
 | x::r=>x+fI r
def gG:List Int→Int
 | []=>0
 | x::r=>x*x+gG r
theorem aE7:∀a b:List Int,fI (a++b)=fI a+fI b
 | [],b=>by simp[fI]
 | x::r,b=>by rw[List.cons_append,fI,fI,aE7 r b];omega
theorem aE5:∀a b:List Int,gG (a++b)=gG a+gG b
 | [],b=>by simp[gG]
 | x::r,b=>by rw[List.cons_append,gG,gG,aE5 r b];omega
theorem aBu:∀l:List Int,(∀z∈l,-32768≤z∧z≤32767)→(-(32768*(l.length:Int))≤fI l∧fI l≤32768*(l.length:Int))∧0≤gG l∧gG l≤1073741824*(l.length:Int)
 | [],_=>by simp[fI,gG]
 | x::r,h=>by
  have h1:=aBu r fun z hz=>h z (List.mem_cons_of_mem _ hz);have h2:=h x (List.mem_cons_self ..);have h3:=fU 32768 32768 (a:=x) (b:=x) oo oo;have h4:0≤x*x:=by
   rcases Int.lt_or_le x 0 with h|h
   ·exact Int.le_of_lt (Int.mul_pos_of_neg_of_neg h h)
   ·exact Int.mul_nonneg h h
  simp only[fI,gG,List.length_cons];push_cast;omega
def pV(x d:Int):Int:=if x < -1000∨1000<x then -1 else x+d
def nX(W H:Nat)(f:List Int)(x y dx dy:Int):List Int:=if (jP W H f (pV x dx) (pV y dy)).2=0 then [(jP W H f (pV x dx) (pV y dy)).1]else []
def nK(W H:Nat)(f:List Int)(x y:Int)(far:Nat)(dy:Int):Nat→List Int
 | 0=>[]
 | j+1=>nK W H f x y far dy j++nX W H f x y ((j:Int)-far) dy
def nD(W H:Nat)(f:List Int)(x y:Int)(far:Nat):Nat→List Int
 | 0=>[]
 | i+1=>nD W H f x y far i++nK W H f x y far ((i:Int)-far) (2*far+1)
theorem aUn{W H:Nat}{f:List Int}(hf:dK f)(x y dx dy:Int):(nX W H f x y dx dy).length≤1∧∀z∈nX W H f x y dx dy,-32768≤z∧z≤32767:=by
 unfold nX;split
 ·exact⟨Nat.le_refl _,fun z hz=>by rw[List.mem_singleton.1 hz];exact xB hf _ _⟩
 ·exact⟨Nat.zero_le _,fun z hz=>by cases hz⟩
theorem aHu{W H:Nat}{f:List Int}(hf:dK f)(x y:Int)(far:Nat)(dy:Int):∀j,(nK W H f x y far dy j).length≤j∧∀z∈nK W H f x y far dy j,-32768≤z∧z≤32767
 | 0=>⟨Nat.le_refl _,fun z hz=>by cases hz⟩
 | j+1=>by
  obtain⟨h1,h2⟩:=aHu hf (W:=W) (H:=H) x y far dy j;obtain⟨h3,h4⟩:=aUn hf (W:=W) (H:=H) x y ((j:Int)-far) dy;rw[nK];refine⟨by rw[List.length_append];omega,fun z hz=>?_⟩;rcases List.mem_append.1 hz with h|h
  ·exact h2 z h
  ·exact h4 z h
theorem aEx{W H:Nat}{f:List Int}(hf:dK f)(x y:Int){far:Nat}(hfar:far≤8):∀i,(nD W H f x y far i).length≤17*i∧∀z∈nD W H f x y far i,-32768≤z∧z≤32767
 | 0=>⟨Nat.le_refl _,fun z hz=>by cases hz⟩
 | i+1=>by
  obtain⟨h1,h2⟩:=aEx hf (W:=W) (H:=H) x y hfar i;obtain⟨h3,h4⟩:=aHu hf (W:=W) (H:=H) x y far ((i:Int)-far) (2*far+1);rw[nD];refine⟨by rw[List.length_append];omega,fun z hz=>?_⟩;rcases List.mem_append.1 hz with h|h
  ·exact h2 z h
  ·exact h4 z h
theorem lfc{F:Fence}{n:Nat}{P:Program}{N:Nat}{ds:List Deferred}{w0:World}{W:Nat→Prop}{σ:List (Nat×Value)}{H R S:List HE}{Q:Exit→Act→World→Prop}{ops:Array Oper}{rest:List Oper}{d:Nat}{ty:TypeId}{pos:String}{aft:Array Edge}{gd:Option (Nat×Bool)}{us:List Value}{Rl:Value→List HE→Prop}[aX F][WF F]{x:Operand}{f:FuncId}{captured:Array Value}{args:Array Operand}{ts:Array TypeId}[Cl P f]
  (hw:cB ops σ ⟨some d,.call ⟨.value x,args,ts⟩,ty,pos,aft,gd⟩=some true) (hx:ev σ x=some (.func (.func f) #[] captured)) (hv:vals σ args.toList=some us) (hdN:Nat.blt d N=true)
  (hc:∀w,St w0 W H w→aZ S w→aF P f (us++captured.toList) S w Rl) [hs:vC H S R] (h:∀v S',Rl v S'→J N ds w0 W ((d,v)::σ) (S'++R) (wpListIn F n P ops Q rest)) :
  J N ds w0 W σ H (wpListIn F n P ops Q (⟨some d,.call ⟨.value x,args,ts⟩,ty,pos,aft,gd⟩::rest)) :=
 kT hw (aMu hx hv hs.h hc fun v S' hr a w ha hw=>h v S' hr _ _ (ha.put d v (by simpa using hdN)) hw)
@[reducible] def wC(bs bq bn:Nat)(L:List Int):List HE:=[.blk bs 2 [.int .i64 (fI L)],.blk bq 2 [.int .i64 (gG L)],.blk bn 2 [.int .i64 (L.length:Nat)]]
@[reducible] def rgE(K:eT)(bf bc bx by' far:Nat)(x y:Int)(T:List HE):List HE:=.blk bf 3 [.int .i64 far]::.blk bc 33 [.pointer (some ⟨K.g,0,none⟩)]::.blk bx 3 [.int .i64 x]::.blk by' 3 [.int .i64 y]::T
@[reducible] def aEv(bs bq bn:Nat):Value:=.func (.func 117) #[] #[.pointer (some ⟨bs,0,none⟩),.pointer (some ⟨bq,0,none⟩),.pointer (some ⟨bn,0,none⟩)]
attribute [local irreducible] OJ J bO Code.wpIn wpListIn Oper.wpIn bodyPost CallsIn aF
theorem bAi(bs bq bn:Nat)(L:List Int)(z:Int)(w:World)(hown:aZ (wC bs bq bn L) w)(hL:∀z∈L,-32768≤z∧z≤32767)(hl:L.length≤1000)(hz : -32768≤z∧z≤32767):
  aF prog 117 [.int .i64 z,.pointer (some ⟨bs,0,none⟩),.pointer (some ⟨bq,0,none⟩),.pointer (some ⟨bn,0,none⟩)] (wC bs bq bn L) w (fun v S'=>S'=wC bs bq bn (L++[z])):=by
 have h1:=aBu L hL;have h3:=fU 32768 32768 (a:=z) (b:=z) oo oo;refine aJ func117 rfl ntmps117 rfl hown (fun n=>?_);simp only[aG];refine aB;rw[show fI L+z=fI (L++[z]) by rw[aE7];simp[fI],show gG L+z*z=gG (L++[z]) by rw[aE5];simp[gG],show (L.length:Int)+1=((L++[z]).length:Nat) by simp];exact oX rfl aA.au rfl
theorem bAh(K:eT)(s:dU)(f:List Int)(x y b:Int)(far bf bc bx by' bs bq bn:Nat)(w:World)(hfar:far≤8)(hF:kJ K.ys f K.room)(h:cV K.ys f K.room s b)(hb:b≤900000000000000000)
  (hown:aZ (K.HC s (rgE K bf bc bx by' far x y (wC bs bq bn []))) w) :
  aF prog 114 [aEv bs bq bn,.pointer (some ⟨bf,0,none⟩),.pointer (some ⟨bc,0,none⟩),.pointer (some ⟨bx,0,none⟩),.pointer (some ⟨by',0,none⟩)] (K.HC s (rgE K bf bc bx by' far x y (wC bs bq bn []))) w
   (fun v S'=>∃s',cV K.ys f K.room s' (b+400)∧S'=K.HC s' (rgE K bf bc bx by' far x y (wC bs bq bn (nD (wY K.ys) (hY K.ys) f x y far (2*far+1))))):=by
 refine aJ func114 rfl ntmps114 rfl hown (fun n=>?_);simp only[aG];refine aB;refine bT (X:=Nat×dU) (fun q=>q.1≤2*far+1∧cV K.ys f K.room q.2 (b+17*q.1)) (fun q=>[(0,aEv bs bq bn),(1,.pointer (some ⟨bf,0,none⟩)),(2,.pointer (some ⟨bc,0,none⟩)),(3,.pointer (some ⟨bx,0,none⟩)),(4,.pointer (some ⟨by',0,none⟩)),(6,.int .i64 ((q.1:Int)-far))])
  (fun q=>K.HC q.2 (rgE K bf bc bx by' far x y (wC bs bq bn (nD (wY K.ys) (hY K.ys) f x y far q.1)))) (fun q=>2*far+1-q.1) (0,s) ⟨oo,by simpa using h⟩ ⟨rfl,rfl,rfl,rfl,rfl,by simp[aH],trivial⟩ (aA.refl _) ?_
 rintro⟨i,s1⟩ ⟨hi,hs1⟩;dsimp only at hi hs1 ⊢;obtain⟨a1,a2⟩:=aEx hF.good.1 (W:=wY K.ys) (H:=hY K.ys) x y hfar i;rcases Nat.lt_or_ge i (2*far+1) with h1|h1
 ·refine aB;refine bT (X:=Nat×dU) (fun q=>q.1≤2*far+1∧cV K.ys f K.room q.2 (b+17*i+q.1)) (fun q=>[(0,aEv bs bq bn),(1,.pointer (some ⟨bf,0,none⟩)),(2,.pointer (some ⟨bc,0,none⟩)),(3,.pointer (some ⟨bx,0,none⟩)),(4,.pointer (some ⟨by',0,none⟩)),(6,.int .i64 ((i:Int)-far)),(7,.int .i64 ((q.1:Int)-far))])
   (fun q=>K.HC q.2 (rgE K bf bc bx by' far x y (wC bs bq bn (nD (wY K.ys) (hY K.ys) f x y far i++nK (wY K.ys) (hY K.ys) f x y far ((i:Int)-far) q.1)))) (fun q=>2*far+1-q.1) (0,s1) ⟨oo,by simpa using hs1⟩ ⟨rfl,rfl,rfl,rfl,rfl,rfl,by simp[aH],trivial⟩ (by rw[show nK (wY K.ys) (hY K.ys) f x y far ((i:Int)-far) 0=[]from rfl,List.append_nil];exact aA.refl _) ?_
  rintro⟨j,s2⟩ ⟨hj,hs2⟩;dsimp only at hj hs2 ⊢;obtain⟨c1,c2⟩:=aHu hF.good.1 (W:=wY K.ys) (H:=hY K.ys) x y far ((i:Int)-far) j;have hlen:(nD (wY K.ys) (hY K.ys) f x y far i++nK (wY K.ys) (hY K.ys) f x y far ((i:Int)-far) j).length≤1000:=by rw[List.length_append];omega
  have hmem:∀z∈nD (wY K.ys) (hY K.ys) f x y far i++nK (wY K.ys) (hY K.ys) f x y far ((i:Int)-far) j,-32768≤z∧z≤32767:=fun z hz=>by
   rcases List.mem_append.1 hz with h|h
   ·exact a2 z h
   ·exact c2 z h
  rcases Nat.lt_or_ge j (2*far+1) with h2|h2
  ·have er:nK (wY K.ys) (hY K.ys) f x y far ((i:Int)-far) (j+1)=nK (wY K.ys) (hY K.ys) f x y far ((i:Int)-far) j++nX (wY K.ys) (hY K.ys) f x y ((j:Int)-far) ((i:Int)-far):=rfl;generalize hLe:nD (wY K.ys) (hY K.ys) f x y far i=LA at *;refine aB;refine fL [.blk bc 33 [.pointer (some ⟨K.g,0,none⟩)],.blk bx 3 [.int .i64 x],.blk by' 3 [.int .i64 y]] (0::1::2::3::4::5::6::7::8::9::10::11::12::[]) aA.au ?_;intro _;refine gP;refine bQ rfl rfl rfl (fun w _=>aPk x ((j:Int)-far) w oo) ?_;refine gP;refine bQ rfl rfl rfl (fun w _=>aPk y ((i:Int)-far) w oo) ?_;refine gP;refine lf rfl rfl rfl (S:=K.H s2) (fun w hw ho=>aLc K s2 f (pV x ((j:Int)-far)) (pV y ((i:Int)-far)) (b+17*i+j) w ho hF hs2 oo) ?_;rintro v S' ⟨s3,rfl,g1,rfl⟩;have k1:=g1.ok hF hs2;have hz:=xB (W:=wY K.ys) (H:=hY K.ys) hF.good.1 (pV x ((j:Int)-far)) (pV y ((i:Int)-far));have ex:nX (wY K.ys) (hY K.ys) f x y ((j:Int)-far) ((i:Int)-far)=if (jP (wY K.ys) (hY K.ys) f (pV x ((j:Int)-far)) (pV y ((i:Int)-far))).2=0 then [(jP (wY K.ys) (hY K.ys) f (pV x ((j:Int)-far)) (pV y ((i:Int)-far))).1]else []:=rfl;generalize jP (wY K.ys) (hY K.ys) f (pV x ((j:Int)-far)) (pV y ((i:Int)-far))=hh at *;refine gP
   ·rename_i h0;refine lfc rfl rfl rfl rfl (S:=wC bs bq bn (LA++nK (wY K.ys) (hY K.ys) f x y far ((i:Int)-far) j)) (fun w hw ho=>bAi bs bq bn _ hh.1 w ho hmem hlen hz) ?_;rintro v S' rfl;refine aB;rw[List.append_assoc,show nK (wY K.ys) (hY K.ys) f x y far ((i:Int)-far) j++[hh.1]=nK (wY K.ys) (hY K.ys) f x y far ((i:Int)-far) (j+1) by rw[er,ex,if_pos h0]]
    trace_state
    exact aN (j+1,s3) ⟨h2,by have:=k1.mono (by omega:b+17*i+j+1≤b+17*i+(j+1:Nat));exact this⟩ (by show 2*far+1-(j+1)<2*far+1-j;omega) ⟨rfl,rfl,rfl,rfl,rfl,rfl,by simp[aH];omega,trivial⟩ aA.au
   ·rename_i h0;rw[show nK (wY K.ys) (hY K.ys) f x y far ((i:Int)-far) j=nK (wY K.ys) (hY K.ys) f x y far ((i:Int)-far) (j+1) by rw[er,ex,if_neg h0,List.append_nil]];exact aN (j+1,s3) ⟨h2,by have:=k1.mono (by omega:b+17*i+j+1≤b+17*i+(j+1:Nat));exact this⟩ (by show 2*far+1-(j+1)<2*far+1-j;omega) ⟨rfl,rfl,rfl,rfl,rfl,rfl,by simp[aH];omega,trivial⟩ aA.au
  ·obtain rfl:j=2*far+1:=oo;refine aB;exact aN (i+1,s2) ⟨h1,hs2.mono oo⟩ (by show 2*far+1-(i+1)<2*far+1-i;omega) ⟨rfl,rfl,rfl,rfl,rfl,by simp[aH];omega,trivial⟩ (aA.refl _)
 ·obtain rfl:i=2*far+1:=oo;refine aB;exact oX rfl (aA.refl _) ⟨s1,hs1.mono oo,rfl⟩
