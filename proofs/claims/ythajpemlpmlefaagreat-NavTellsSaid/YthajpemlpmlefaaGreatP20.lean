import Derived.Test.YthajpemlpmlefaaGreatP16
import Derived.Test.YthajpemlpmlefaaGreatP19
set_option maxHeartbeats 512000000
set_option maxRecDepth 4000
set_option linter.unusedVariables false
set_option linter.unusedSimpArgs false
namespace Go.Proofs.YthajpemlpmlefaaGreat
open Go.RowKit
def InsP(W H:Nat)(X Y:Int):Prop:=0≤X∧0≤Y∧X≤((W:Int)-1)*256∧Y≤((H:Int)-1)*256
instance (W H:Nat)(X Y:Int):Decidable (InsP W H X Y):=by unfold InsP;infer_instance
def corX(X:Int)(i:Nat):Int:=X/256+if X%256=0 then 0 else ((i:Nat):Int)
def corH(W H:Nat)(f:List Int)(X Y:Int)(i:Nat):Int×Int:=heightF W H f (corX X (i%2)) (corX Y (i/2))
def codeT(W H:Nat)(f:List Int)(X Y:Int):Nat→Int
 | 0=>0
 | i+1=>if codeT W H f X Y i≠0 then codeT W H f X Y i else (corH W H f X Y i).2
def codeF(W H:Nat)(f:List Int)(X Y:Int):Int:=if InsP W H X Y then codeT W H f X Y 4 else 9
def zT(W H:Nat)(f:List Int)(X Y:Int):Nat→List Int
 | 0=>[0,0,0,0]
 | i+1=>(zT W H f X Y i).set i (corH W H f X Y i).1
theorem zT_len(W H:Nat)(f:List Int)(X Y:Int):∀i,(zT W H f X Y i).length=4
 | 0=>rfl
 | i+1=>by rw[zT,List.length_set,zT_len W H f X Y i]
def fourF(W H:Nat)(f:List Int)(X Y:Int):List Int:=if codeF W H f X Y=0 then zT W H f X Y 4 else [0,0,0,0]
theorem heightF_in{W H:Nat}{f:List Int}(hf:In16 f)(x y:Int): -32768≤(heightF W H f x y).1∧(heightF W H f x y).1≤32767:=by
 unfold heightF
 split
 ·exact⟨by decide,by decide⟩
 split
 ·exact⟨by decide,by decide⟩
 ·exact hf _
instance:SzI Tryz.prog 2 1:=⟨Tryz.t2,by kernel_rfl,by kernel_rfl⟩
theorem and255{x:Int}(h:0≤x)(h2:x<4611686018427387904):bits .and .i64 x 255=x%256:=bits_mask .i64 62 (by decide) (fun n h0 h1=>by rw[IntKind.wrap_i64];omega) 8 (by decide) x h (by omega)
section
variable {P:Program} {w0:World} {W:Nat→Prop} {H:List HE}
instance (priority:=90) (x y:Operand)(t e m b q sz j r r':Nat)(k:IntKind)(a:Int)[hu:Und P t (.array m e)][hI:SzI P e sz][ha:LitI a j][hm:NMul j sz r][hr:NAdd q r r']:LV P w0 W H (.indexAddr t x y) [.pointer (some ⟨b,q,none⟩),.int k a] (.pointer (some ⟨b,r',none⟩)) (j<m):=⟨fun hc=>by
 have:=LV.h (P:=P) (w0:=w0) (W:=W) (H:=H) (op:=.indexAddr t x y) (vs:=[.pointer (some ⟨b,q,none⟩),.int k (j:Int)]) (v:=.pointer (some ⟨b,r',none⟩)) hc
 rw[← ha.h]at this
 exact this⟩
instance (priority:=90) (x y:Operand)(t e m b q sz j r r':Nat)(k:IntKind)(a:Int)[hu:Und P t (.array m e)][hI:SzI P e sz][ha:LitI a j][hm:NMul j sz r][hr:NAdd q r r']:MS P w0 W H (.indexAddr t x y) [.pointer (some ⟨b,q,none⟩),.int k a] (.pointer (some ⟨b,r',none⟩)) (j<m):=by
 have h0:MS P w0 W H (.indexAddr t x y) [.pointer (some ⟨b,q,none⟩),.int k (j:Int)] (.pointer (some ⟨b,r',none⟩)) (j<m):=inferInstance
 rw[← ha.h]at h0
 exact h0
end
theorem lb0{F:Fence}{n:Nat}{P:Program}{N:Nat}{ds:List Deferred}{w0:World}{W:Nat→Prop}{σ:List (Nat×Value)}{H:List HE}{Q:Exit→Act→World→Prop}{ops:Array Oper}{rest:List Oper}{d:Nat}{ty:TypeId}{pos:String}{aft:Array Edge}{gd:Option (Nat×Bool)}[Wide F]{t e m sz bs szt bst:Nat}{z ze:Value}{zs:List Value}[hu:Und P t (.array m e)][hI:Inf P t szt bst z][he:Inf P e sz bs ze][hz:ZC z zs](hw:wantd ops σ ⟨some d,.build t #[],ty,pos,aft,gd⟩=some true)(hdN:Nat.blt d N=true)
  (h:J N ds w0 W ((d,.agg zs.toArray)::σ) H (wpListIn F n P ops Q rest)):J N ds w0 W σ H (wpListIn F n P ops Q (⟨some d,.build t #[],ty,pos,aft,gd⟩::rest)):=by
 refine l_run hw (o_val (by simp) rfl hdN (fun a w ha _=>?_) h)
 obtain⟨i,h3,h4,-⟩:=hI.h
 obtain⟨j,h5,-,h6,-⟩:=he.h
 have hb:(Instr.build t ((#[]:Array (Nat×Operand)).map fun (i,x)=>(i,a.eval x))).run P w=.ok (.agg zs.toArray) w:=by
  unfold Instr.build
  have hz':(zeroValue t).run P w=.ok z w:=by simp[zeroValue,typeInfo,h3,h4]
  have hs:(sizeOf e).run P w=.ok sz w:=by simp[sizeOf,typeInfo,h5,h6]
  have hc:z.cells=zs.toArray:=by rw[← hz.h]
  simp only[Sem.run_bind,hz',Result.andThen_ok,run_underlying hu.h,hs,Array.map_empty,Instr.fill,Sem.run_pure,hc]
 simp only[execOp,Sem.run_bind,hb,Result.andThen_ok,Sem.run_pure]
attribute [local irreducible] OJ J HdJ Code.wpIn wpListIn Oper.wpIn bodyPost CallsIn Does
theorem inside_any(W H:Nat)(A:Option Addr)(m c:Nat)(cell ox oy X Y:Int)(w:World)(hm:1≤W∧W≤1000000∧1≤H∧H≤1000000):
  Does Tryz.prog 162 [.agg #[.int .i64 W,.int .i64 H,.slice A m c,.int .i64 cell,.int .i32 ox,.int .i32 oy],.agg #[.int .i64 X,.int .i64 Y]] [] w (fun v S'=>v=.bool (decide (InsP W H X Y))∧S'=[]):=by
 refine does_of Tryz.func162 rfl Tryz.ntmps162 rfl ⟨by simp,.nil⟩ (fun n=>?_)
 simp only[slots]
 refine z_tas
 all_goals exact j_out1 rfl rfl (.nil _) ⟨congrArg Value.bool (by rw[Bool.eq_iff_iff];simp only[decide_eq_true_eq,Bool.and_eq_true,Bool.false_eq_true,false_iff];unfold InsP;omega),rfl⟩
theorem corner_any(X Y:Int)(w:World)(h:(0≤X∧X<4611686018427387904)∧(0≤Y∧Y<4611686018427387904)):
  Does Tryz.prog 105 [.agg #[.int .i64 X,.int .i64 Y]] [] w (fun v S'=>v=.tuple #[.int .i64 (X/256),.int .i64 (Y/256),.int .i64 (X%256),.int .i64 (Y%256)]∧S'=[]):=by
 refine does_of Tryz.func105 rfl Tryz.ntmps105 rfl ⟨by simp,.nil⟩ (fun n=>?_)
 simp only[slots]
 rw[← and255 h.1.1 h.1.2,← and255 h.2.1 h.2.2]
 refine z_gob
 all_goals (refine z_ro;exact⟨rfl,rfl⟩)
theorem four_of{l:List Int}(h:l.length=4):∃a b c d,l=[a,b,c,d]:=by
 match l,h with
 | [a,b,c,d],_=>exact⟨a,b,c,d,rfl⟩
theorem ints_set(k:IntKind)(xs:List Int)(q:Nat)(v:Int):(ints k xs).set q (.int k v)=ints k (xs.set q v):=by unfold ints;rw[List.map_set]
theorem and1:∀i:Nat,i<4→bits .and .i64 (i:Int) 1=((i%2:Nat):Int)
 | 0,_=>by decide
 | 1,_=>by decide
 | 2,_=>by decide
 | 3,_=>by decide
 | n+4,h=>by omega
theorem codeT_stop{W H:Nat}{f:List Int}{X Y:Int}{i:Nat}(h:codeT W H f X Y i≠0):∀k,codeT W H f X Y (i+k)=codeT W H f X Y i
 | 0=>rfl
 | k+1=>by rw[← Nat.add_assoc,codeT,codeT_stop h k,if_pos h]
theorem four_c(K:CaT)(s:CaV)(f:List Int)(X Y b:Int)(w:World)(hown:Own (K.H s) w)(hF:CaF K.ys f K.room)(h:CaOk K.ys f K.room s b)(hb:b≤900000000000000000):
  Does Tryz.prog 104 [.pointer (some ⟨K.g,0,none⟩),.agg #[.int .i64 X,.int .i64 Y]] (K.H s) w (fun v S'=>∃s',v=.tuple #[.agg (ints .i64 (fourF (wY K.ys) (hY K.ys) f X Y)).toArray,.int .i64 (codeF (wY K.ys) (hY K.ys) f X Y)]∧CaOk K.ys f K.room s' (b+4)∧S'=K.H s'):=by
 have hrg:=hF.op.rng
 unfold rangeY at hrg
 refine does_of Tryz.func104 rfl Tryz.ntmps104 rfl hown (fun n=>?_)
 simp only[slots]
 refine z_tas
 rename_i b3 b4 b6
 refine c_dv (0::1::2::3::4::[]) ?_;intro _
 refine z_govG
 refine lk rfl rfl rfl (S:=K.H s) (fun w hw ho=>chart_c K s w ho) ?_
 refine z_govG
 refine lfv rfl rfl rfl (fun w _=>inside_any (wY K.ys) (hY K.ys) none 0 0 _ _ _ X Y w (by omega)) ?_
 by_cases hI:InsP (wY K.ys) (hY K.ys) X Y
 ·rw[decide_eq_true hI]
  have hI2:=hI
  unfold InsP at hI2
  refine z_govG
  refine lfv rfl rfl rfl (fun w _=>corner_any X Y w (by omega)) ?_
  refine z_tas
  refine c_loop (X:=Nat×CaV) (fun q=>q.1≤4∧codeT (wY K.ys) (hY K.ys) f X Y q.1=0∧CaOk K.ys f K.room q.2 (b+q.1)) (fun q=>[(0,.pointer (some ⟨K.g,0,none⟩)),(4,.pointer (some ⟨b4,0,none⟩)),(6,.pointer (some ⟨b6,0,none⟩)),(7,.int .i64 (X/256)),(8,.int .i64 (Y/256)),(9,.int .i64 (X%256)),(10,.int .i64 (Y%256)),(29,.int .i64 q.1)])
   (fun q=>K.HC q.2 [.blk b6 203 (ints .i64 (zT (wY K.ys) (hY K.ys) f X Y q.1)),.blk b4 203 [.int .i64 0,.int .i64 0,.int .i64 0,.int .i64 0],.blk b3 33 [.int .i64 X,.int .i64 Y]]) (fun q=>4-q.1) (0,s) ⟨by omega,rfl,by simpa using h⟩ ⟨rfl,rfl,rfl,rfl,rfl,rfl,rfl,rfl,trivial⟩ (by show Sub (K.HC s (.blk b6 _ [.int .i64 0,.int .i64 0,.int .i64 0,.int .i64 0]::_)) _;exact Sub.au) ?_
  rintro⟨i,s1⟩ ⟨hi,hc0,hs⟩
  dsimp only at hi hc0 hs ⊢
  have hzl:=zT_len (wY K.ys) (hY K.ys) f X Y i
  rcases Nat.lt_or_ge i 4 with h4|h4
  ·have ha:=and1 i h4
   have hd:(i:Int)/2^1=((i/2:Nat):Int):=by omega
   have hci:=heightF_in (W:=wY K.ys) (H:=hY K.ys) hF.good.1
   have ec:codeT (wY K.ys) (hY K.ys) f X Y (i+1)=(corH (wY K.ys) (hY K.ys) f X Y i).2:=by rw[codeT,if_neg (by rw[hc0];simp)]
   have ez:zT (wY K.ys) (hY K.ys) f X Y (i+1)=(zT (wY K.ys) (hY K.ys) f X Y i).set i (corH (wY K.ys) (hY K.ys) f X Y i).1:=rfl
   have o1:SetAt (ints .i64 (zT (wY K.ys) (hY K.ys) f X Y i)) i (.int .i64 (heightF (wY K.ys) (hY K.ys) f (corX X (i%2)) (corX Y (i/2))).1) (ints .i64 (zT (wY K.ys) (hY K.ys) f X Y (i+1))):=⟨by rw[ints_set,ez];rfl,by rw[ints_len,hzl];exact h4⟩
   have hc1:=hci (corX X (i%2)) (corX Y (i/2))
   refine z_tas
   all_goals
    refine j_set 44 _ rfl (v':=.int .i64 (corX X (i%2))) (congrArg (Value.int .i64) (by unfold corX;first|rw[if_pos (by assumption)]|rw[if_neg (by assumption),ha])) ?_
    refine j_set 47 _ rfl (v':=.int .i64 (corX Y (i/2))) (congrArg (Value.int .i64) (by unfold corX;first|rw[if_pos (by assumption)]|rw[if_neg (by assumption),hd])) ?_
    refine lf rfl rfl rfl (S:=K.H s1) (fun w hw ho=>height_c K s1 f (corX X (i%2)) (corX Y (i/2)) (b+i) w ho hF hs (by omega)) ?_
    rintro v S' ⟨s',rfl,g1,rfl⟩
    have k1:=g1.ok hF hs
    refine z_gox
    refine c_if rfl ?_ ?_<;>intro h9
    ·have e4:codeT (wY K.ys) (hY K.ys) f X Y (i+1+(3-i))=_:=codeT_stop (by rw[ec];exact h9) _
     rw[show i+1+(3-i)=4 by omega,ec]at e4
     have e5:codeF (wY K.ys) (hY K.ys) f X Y=(heightF (wY K.ys) (hY K.ys) f (corX X (i%2)) (corX Y (i/2))).2:=by unfold codeF;rw[if_pos hI,e4];rfl
     rw[show fourF (wY K.ys) (hY K.ys) f X Y=[0,0,0,0] by unfold fourF;rw[e5,if_neg h9],e5]
     refine z_gox
     refine lb0 rfl rfl ?_
     refine z_gox
     refine j_outK (S':=K.H s') Sub.au ?_
     refine z_rk
     exact⟨s',rfl,k1.mono (by omega),rfl⟩
    ·refine z_tas
     exact c_round (i+1,s') ⟨h4,by rw[ec];exact Classical.not_not.1 h9,k1.mono (by omega)⟩ (by show 4-(i+1)<4-i;omega) ⟨rfl,rfl,rfl,rfl,rfl,rfl,rfl,by simp[look],trivial⟩ Sub.au
  ·obtain rfl:i=4:=by omega
   have e5:codeF (wY K.ys) (hY K.ys) f X Y=0:=by unfold codeF;rw[if_pos hI,hc0]
   rw[show fourF (wY K.ys) (hY K.ys) f X Y=zT (wY K.ys) (hY K.ys) f X Y 4 by unfold fourF;rw[if_pos e5],e5]
   generalize zT (wY K.ys) (hY K.ys) f X Y 4=L at *
   obtain⟨z0,z1,z2,z3,rfl⟩:=four_of hzl
   simp only[ints,List.map_cons,List.map_nil]
   refine z_tas
   refine j_outK (S':=K.H s1) Sub.au ?_
   refine z_rk
   exact⟨s1,rfl,hs,rfl⟩
 ·rw[decide_eq_false hI]
  have ec:codeF (wY K.ys) (hY K.ys) f X Y=9:=if_neg hI
  have ef:fourF (wY K.ys) (hY K.ys) f X Y=[0,0,0,0]:=by unfold fourF;rw[ec];rfl
  rw[ec,ef]
  refine z_govG
  refine j_outK (S':=K.H s) Sub.au ?_
  refine z_rk
  exact⟨s,rfl,h.mono (by omega),rfl⟩
def exF(a b c d fx fy:Int):Int:=(a*(256-fx)+b*fx)*(256-fy)+(c*(256-fx)+d*fx)*fy
def exL:List Int→Int→Int→Int
 | [a,b,c,d],fx,fy=>exF a b c d fx fy
 | _,_,_=>0
def heightT(W H:Nat)(f:List Int)(X Y:Int):Int:=if codeF W H f X Y=0 then (2*(exL (fourF W H f X Y) (X%256) (Y%256)*16)+65536)/(2*65536)else 0
theorem zT_in{W H:Nat}{f:List Int}(hf:In16 f)(X Y:Int):∀i,∀z∈zT W H f X Y i,-32768≤z∧z≤32767
 | 0,z,hz=>by simp[zT]at hz;omega
 | i+1,z,hz=>by
  rw[zT]at hz
  rcases List.mem_or_eq_of_mem_set hz with h|h
  ·exact zT_in hf X Y i z h
  ·rw[h];exact heightF_in hf _ _
theorem fourF_in{W H:Nat}{f:List Int}(hf:In16 f)(X Y:Int):∃a b c d,fourF W H f X Y=[a,b,c,d]∧(-32768≤a∧a≤32767)∧(-32768≤b∧b≤32767)∧(-32768≤c∧c≤32767)∧(-32768≤d∧d≤32767):=by
 unfold fourF
 split
 ·obtain⟨a,b,c,d,e⟩:=four_of (zT_len W H f X Y 4)
  have h:=zT_in hf (W:=W) (H:=H) X Y 4
  rw[e]at h ⊢
  exact⟨a,b,c,d,rfl,h a (by simp),h b (by simp),h c (by simp),h d (by simp)⟩
 ·exact⟨0,0,0,0,rfl,by omega,by omega,by omega,by omega⟩
theorem exF_in{a b c d fx fy:Int}(h:(-32768≤a∧a≤32767)∧(-32768≤b∧b≤32767)∧(-32768≤c∧c≤32767)∧(-32768≤d∧d≤32767))(hx:0≤fx∧fx<256)(hy:0≤fy∧fy<256):
  (-8388608≤a*(256-fx)∧a*(256-fx)≤8388608)∧(-8388608≤b*fx∧b*fx≤8388608)∧(-8388608≤c*(256-fx)∧c*(256-fx)≤8388608)∧(-8388608≤d*fx∧d*fx≤8388608) ∧
  (-4294967296≤(a*(256-fx)+b*fx)*(256-fy)∧(a*(256-fx)+b*fx)*(256-fy)≤4294967296)∧(-4294967296≤(c*(256-fx)+d*fx)*fy∧(c*(256-fx)+d*fx)*fy≤4294967296):=by
 have m1:=mulB 32768 256 (a:=a) (b:=256-fx) (by omega) (by omega)
 have m2:=mulB 32768 256 (a:=b) (b:=fx) (by omega) (by omega)
 have m3:=mulB 32768 256 (a:=c) (b:=256-fx) (by omega) (by omega)
 have m4:=mulB 32768 256 (a:=d) (b:=fx) (by omega) (by omega)
 have m5:=mulB 16777216 256 (a:=a*(256-fx)+b*fx) (b:=256-fy) (by omega) (by omega)
 have m6:=mulB 16777216 256 (a:=c*(256-fx)+d*fx) (b:=fy) (by omega) (by omega)
 omega
theorem exact_any(a b c d fx fy:Int)(w:World)(h:(-32768≤a∧a≤32767)∧(-32768≤b∧b≤32767)∧(-32768≤c∧c≤32767)∧(-32768≤d∧d≤32767))(hx:0≤fx∧fx<256)(hy:0≤fy∧fy<256):
  Does Tryz.prog 106 [.agg #[.int .i64 a,.int .i64 b,.int .i64 c,.int .i64 d],.int .i64 fx,.int .i64 fy] [] w (fun v S'=>v=.int .i64 (exF a b c d fx fy)∧S'=[]):=by
 obtain⟨m1,m2,m3,m4,m5,m6⟩:=exF_in h hx hy
 refine does_of Tryz.func106 rfl Tryz.ntmps106 rfl ⟨by simp,.nil⟩ (fun n=>?_)
 simp only[slots]
 refine z_tas
 exact j_out1 rfl rfl (.nil _) ⟨rfl,rfl⟩
theorem height_t(K:CaT)(s:CaV)(f:List Int)(X Y b:Int)(w:World)(hown:Own (K.H s) w)(hF:CaF K.ys f K.room)(h:CaOk K.ys f K.room s b)(hb:b≤900000000000000000):
  Does Tryz.prog 57 [.pointer (some ⟨K.g,0,none⟩),.agg #[.int .i64 X,.int .i64 Y]] (K.H s) w (fun v S'=>∃s',v=.tuple #[.int .i64 (heightT (wY K.ys) (hY K.ys) f X Y),.int .i64 (codeF (wY K.ys) (hY K.ys) f X Y)]∧CaOk K.ys f K.room s' (b+4)∧S'=K.H s'):=by
 have hrg:=hF.op.rng
 unfold rangeY at hrg
 refine does_of Tryz.func57 rfl Tryz.ntmps57 rfl hown (fun n=>?_)
 simp only[slots]
 refine z_tas
 refine lf rfl rfl rfl (S:=K.H s) (fun w hw ho=>four_c K s f X Y b w ho hF h hb) ?_
 rintro v S' ⟨s',rfl,k1,rfl⟩
 obtain⟨z0,z1,z2,z3,e4,hz⟩:=fourF_in (W:=wY K.ys) (H:=hY K.ys) hF.good.1 X Y
 unfold heightT
 rw[e4]
 simp only[ints,List.map_cons,List.map_nil,exL]
 by_cases hc:codeF (wY K.ys) (hY K.ys) f X Y=0
 ·have hI:InsP (wY K.ys) (hY K.ys) X Y:=by
   unfold codeF at hc
   split at hc
   ·assumption
   ·exact absurd hc (by decide)
  unfold InsP at hI
  rw[if_pos hc,hc]
  have hex:=exF_in (fx:=X%256) (fy:=Y%256) hz (by omega) (by omega)
  have he : -8589934592≤exF z0 z1 z2 z3 (X%256) (Y%256)∧exF z0 z1 z2 z3 (X%256) (Y%256)≤8589934592:=by unfold exF;omega
  refine z_tas
  refine lfv rfl rfl rfl (fun w _=>corner_any X Y w (by omega)) ?_
  refine z_tas
  refine lfv rfl rfl rfl (fun w _=>exact_any z0 z1 z2 z3 (X%256) (Y%256) w hz (by omega) (by omega)) ?_
  refine z_tas
  refine j_out2 rfl rfl rfl Sub.au ⟨s',?_,k1,rfl⟩
  rw[divV_near (by decide)]
 ·rw[if_neg hc]
  refine z_tas
  all_goals exact j_out2 rfl rfl rfl Sub.au ⟨s',rfl,k1,rfl⟩
theorem within_any(x d:Int)(w:World)(hd : -8≤d∧d≤8):Does Tryz.prog 109 [.int .i64 x,.int .i64 d] [] w (fun v S'=>v=.int .i64 (if x < -1000∨1000<x then -1 else x+d)∧S'=[]):=by
 refine does_of Tryz.func109 rfl Tryz.ntmps109 rfl ⟨by simp,.nil⟩ (fun n=>?_)
 simp only[slots]
 by_cases h:x < -1000∨1000<x
 ·rw[if_pos h]
  refine z_tas
  all_goals first
   | exact j_out1 rfl rfl (.nil _) ⟨rfl,rfl⟩
   | (exfalso;omega)
 ·rw[if_neg h]
  refine z_tas
  all_goals first
   | (exfalso;omega)
   | exact j_out1 rfl rfl (.nil _) ⟨rfl,rfl⟩
end Go.Proofs.YthajpemlpmlefaaGreat
namespace Go.Proofs.YthajpemlpmlefaaGreat
open Go.RowKit
def sumZ:List Int→Int
 | []=>0
 | x::r=>x+sumZ r
def sqZ:List Int→Int
 | []=>0
 | x::r=>x*x+sqZ r
theorem sumZ_app:∀a b:List Int,sumZ (a++b)=sumZ a+sumZ b
 | [],b=>by simp[sumZ]
 | x::r,b=>by rw[List.cons_append,sumZ,sumZ,sumZ_app r b];omega
theorem sqZ_app:∀a b:List Int,sqZ (a++b)=sqZ a+sqZ b
 | [],b=>by simp[sqZ]
 | x::r,b=>by rw[List.cons_append,sqZ,sqZ,sqZ_app r b];omega
theorem sum_in:∀l:List Int,(∀z∈l,-32768≤z∧z≤32767)→(-(32768*(l.length:Int))≤sumZ l∧sumZ l≤32768*(l.length:Int))∧0≤sqZ l∧sqZ l≤1073741824*(l.length:Int)
 | [],_=>by simp[sumZ,sqZ]
 | x::r,h=>by
  have h1:=sum_in r fun z hz=>h z (List.mem_cons_of_mem _ hz)
  have h2:=h x (List.mem_cons_self ..)
  have h3:=mulB 32768 32768 (a:=x) (b:=x) (by omega) (by omega)
  have h4:0≤x*x:=by
   rcases Int.lt_or_le x 0 with h|h
   ·exact Int.le_of_lt (Int.mul_pos_of_neg_of_neg h h)
   ·exact Int.mul_nonneg h h
  simp only[sumZ,sqZ,List.length_cons]
  push_cast
  omega
def wiF(x d:Int):Int:=if x < -1000∨1000<x then -1 else x+d
def hAt(W H:Nat)(f:List Int)(x y dx dy:Int):List Int:=if (heightF W H f (wiF x dx) (wiF y dy)).2=0 then [(heightF W H f (wiF x dx) (wiF y dy)).1]else []
def rowH(W H:Nat)(f:List Int)(x y:Int)(far:Nat)(dy:Int):Nat→List Int
 | 0=>[]
 | j+1=>rowH W H f x y far dy j++hAt W H f x y ((j:Int)-far) dy
def allH(W H:Nat)(f:List Int)(x y:Int)(far:Nat):Nat→List Int
 | 0=>[]
 | i+1=>allH W H f x y far i++rowH W H f x y far ((i:Int)-far) (2*far+1)
theorem hAt_in{W H:Nat}{f:List Int}(hf:In16 f)(x y dx dy:Int):(hAt W H f x y dx dy).length≤1∧∀z∈hAt W H f x y dx dy,-32768≤z∧z≤32767:=by
 unfold hAt
 split
 ·exact⟨Nat.le_refl _,fun z hz=>by rw[List.mem_singleton.1 hz];exact heightF_in hf _ _⟩
 ·exact⟨Nat.zero_le _,fun z hz=>by cases hz⟩
theorem rowH_in{W H:Nat}{f:List Int}(hf:In16 f)(x y:Int)(far:Nat)(dy:Int):∀j,(rowH W H f x y far dy j).length≤j∧∀z∈rowH W H f x y far dy j,-32768≤z∧z≤32767
 | 0=>⟨Nat.le_refl _,fun z hz=>by cases hz⟩
 | j+1=>by
  obtain⟨h1,h2⟩:=rowH_in hf (W:=W) (H:=H) x y far dy j
  obtain⟨h3,h4⟩:=hAt_in hf (W:=W) (H:=H) x y ((j:Int)-far) dy
  rw[rowH]
  refine⟨by rw[List.length_append];omega,fun z hz=>?_⟩
  rcases List.mem_append.1 hz with h|h
  ·exact h2 z h
  ·exact h4 z h
theorem allH_in{W H:Nat}{f:List Int}(hf:In16 f)(x y:Int){far:Nat}(hfar:far≤8):∀i,(allH W H f x y far i).length≤17*i∧∀z∈allH W H f x y far i,-32768≤z∧z≤32767
 | 0=>⟨Nat.le_refl _,fun z hz=>by cases hz⟩
 | i+1=>by
  obtain⟨h1,h2⟩:=allH_in hf (W:=W) (H:=H) x y hfar i
  obtain⟨h3,h4⟩:=rowH_in hf (W:=W) (H:=H) x y far ((i:Int)-far) (2*far+1)
  rw[allH]
  refine⟨by rw[List.length_append];omega,fun z hz=>?_⟩
  rcases List.mem_append.1 hz with h|h
  ·exact h2 z h
  ·exact h4 z h
theorem lfc{F:Fence}{n:Nat}{P:Program}{N:Nat}{ds:List Deferred}{w0:World}{W:Nat→Prop}{σ:List (Nat×Value)}{H R S:List HE}{Q:Exit→Act→World→Prop}{ops:Array Oper}{rest:List Oper}{d:Nat}{ty:TypeId}{pos:String}{aft:Array Edge}{gd:Option (Nat×Bool)}{us:List Value}{Rl:Value→List HE→Prop}[Wide F][WF F]{x:Operand}{f:FuncId}{captured:Array Value}{args:Array Operand}{ts:Array TypeId}[Cl P f]
  (hw:wantd ops σ ⟨some d,.call ⟨.value x,args,ts⟩,ty,pos,aft,gd⟩=some true) (hx:ev σ x=some (.func (.func f) #[] captured)) (hv:vals σ args.toList=some us) (hdN:Nat.blt d N=true)
  (hc:∀w,St w0 W H w→Own S w→Does P f (us++captured.toList) S w Rl) [hs:SplitC H S R] (h:∀v S',Rl v S'→J N ds w0 W ((d,v)::σ) (S'++R) (wpListIn F n P ops Q rest)) :
  J N ds w0 W σ H (wpListIn F n P ops Q (⟨some d,.call ⟨.value x,args,ts⟩,ty,pos,aft,gd⟩::rest)) :=
 l_run hw (o_call hx hv hs.h hc fun v S' hr a w ha hw=>h v S' hr _ _ (ha.put d v (by simpa using hdN)) hw)
@[reducible] def sumsE(bs bq bn:Nat)(L:List Int):List HE:=[.blk bs 2 [.int .i64 (sumZ L)],.blk bq 2 [.int .i64 (sqZ L)],.blk bn 2 [.int .i64 (L.length:Nat)]]
@[reducible] def rgE(K:CaT)(bf bc bx by' far:Nat)(x y:Int)(T:List HE):List HE:=.blk bf 3 [.int .i64 far]::.blk bc 75 [.pointer (some ⟨K.g,0,none⟩)]::.blk bx 3 [.int .i64 x]::.blk by' 3 [.int .i64 y]::T
@[reducible] def accV(bs bq bn:Nat):Value:=.func (.func 110) #[] #[.pointer (some ⟨bs,0,none⟩),.pointer (some ⟨bq,0,none⟩),.pointer (some ⟨bn,0,none⟩)]
attribute [local irreducible] OJ J HdJ Code.wpIn wpListIn Oper.wpIn bodyPost CallsIn Does
theorem rough2_any(bs bq bn:Nat)(L:List Int)(z:Int)(w:World)(hown:Own (sumsE bs bq bn L) w)(hL:∀z∈L,-32768≤z∧z≤32767)(hl:L.length≤1000)(hz : -32768≤z∧z≤32767):
  Does Tryz.prog 110 [.int .i64 z,.pointer (some ⟨bs,0,none⟩),.pointer (some ⟨bq,0,none⟩),.pointer (some ⟨bn,0,none⟩)] (sumsE bs bq bn L) w (fun v S'=>S'=sumsE bs bq bn (L++[z])):=by
 have h1:=sum_in L hL
 have h3:=mulB 32768 32768 (a:=z) (b:=z) (by omega) (by omega)
 refine does_of Tryz.func110 rfl Tryz.ntmps110 rfl hown (fun n=>?_)
 simp only[slots]
 refine z_tas
 rw[show sumZ L+z=sumZ (L++[z]) by rw[sumZ_app];simp[sumZ],show sqZ L+z*z=sqZ (L++[z]) by rw[sqZ_app];simp[sqZ],show (L.length:Int)+1=((L++[z]).length:Nat) by simp]
 exact j_outN rfl Sub.au rfl
theorem rough1_any(K:CaT)(s:CaV)(f:List Int)(x y b:Int)(far bf bc bx by' bs bq bn:Nat)(w:World)(hfar:far≤8)(hF:CaF K.ys f K.room)(h:CaOk K.ys f K.room s b)(hb:b≤900000000000000000)
  (hown:Own (K.HC s (rgE K bf bc bx by' far x y (sumsE bs bq bn []))) w) :
  Does Tryz.prog 107 [accV bs bq bn,.pointer (some ⟨bf,0,none⟩),.pointer (some ⟨bc,0,none⟩),.pointer (some ⟨bx,0,none⟩),.pointer (some ⟨by',0,none⟩)] (K.HC s (rgE K bf bc bx by' far x y (sumsE bs bq bn []))) w
   (fun v S'=>∃s',CaOk K.ys f K.room s' (b+400)∧S'=K.HC s' (rgE K bf bc bx by' far x y (sumsE bs bq bn (allH (wY K.ys) (hY K.ys) f x y far (2*far+1))))):=by
 refine does_of Tryz.func107 rfl Tryz.ntmps107 rfl hown (fun n=>?_)
 simp only[slots]
 refine z_tas
 refine c_loop (X:=Nat×CaV) (fun q=>q.1≤2*far+1∧CaOk K.ys f K.room q.2 (b+17*q.1)) (fun q=>[(0,accV bs bq bn),(1,.pointer (some ⟨bf,0,none⟩)),(2,.pointer (some ⟨bc,0,none⟩)),(3,.pointer (some ⟨bx,0,none⟩)),(4,.pointer (some ⟨by',0,none⟩)),(6,.int .i64 ((q.1:Int)-far))])
  (fun q=>K.HC q.2 (rgE K bf bc bx by' far x y (sumsE bs bq bn (allH (wY K.ys) (hY K.ys) f x y far q.1)))) (fun q=>2*far+1-q.1) (0,s) ⟨by omega,by simpa using h⟩ ⟨rfl,rfl,rfl,rfl,rfl,by simp[look],trivial⟩ (Sub.refl _) ?_
 rintro⟨i,s1⟩ ⟨hi,hs1⟩
 dsimp only at hi hs1 ⊢
 obtain⟨a1,a2⟩:=allH_in hF.good.1 (W:=wY K.ys) (H:=hY K.ys) x y hfar i
 rcases Nat.lt_or_ge i (2*far+1) with h1|h1
 ·refine z_tas
  refine c_loop (X:=Nat×CaV) (fun q=>q.1≤2*far+1∧CaOk K.ys f K.room q.2 (b+17*i+q.1)) (fun q=>[(0,accV bs bq bn),(1,.pointer (some ⟨bf,0,none⟩)),(2,.pointer (some ⟨bc,0,none⟩)),(3,.pointer (some ⟨bx,0,none⟩)),(4,.pointer (some ⟨by',0,none⟩)),(6,.int .i64 ((i:Int)-far)),(7,.int .i64 ((q.1:Int)-far))])
   (fun q=>K.HC q.2 (rgE K bf bc bx by' far x y (sumsE bs bq bn (allH (wY K.ys) (hY K.ys) f x y far i++rowH (wY K.ys) (hY K.ys) f x y far ((i:Int)-far) q.1)))) (fun q=>2*far+1-q.1) (0,s1) ⟨by omega,by simpa using hs1⟩ ⟨rfl,rfl,rfl,rfl,rfl,rfl,by simp[look],trivial⟩ (by rw[show rowH (wY K.ys) (hY K.ys) f x y far ((i:Int)-far) 0=[]from rfl,List.append_nil];exact Sub.refl _) ?_
  rintro⟨j,s2⟩ ⟨hj,hs2⟩
  dsimp only at hj hs2 ⊢
  obtain⟨c1,c2⟩:=rowH_in hF.good.1 (W:=wY K.ys) (H:=hY K.ys) x y far ((i:Int)-far) j
  have hlen:(allH (wY K.ys) (hY K.ys) f x y far i++rowH (wY K.ys) (hY K.ys) f x y far ((i:Int)-far) j).length≤1000:=by rw[List.length_append];omega
  have hmem:∀z∈allH (wY K.ys) (hY K.ys) f x y far i++rowH (wY K.ys) (hY K.ys) f x y far ((i:Int)-far) j,-32768≤z∧z≤32767:=fun z hz=>by
   rcases List.mem_append.1 hz with h|h
   ·exact a2 z h
   ·exact c2 z h
  rcases Nat.lt_or_ge j (2*far+1) with h2|h2
  ·have er:rowH (wY K.ys) (hY K.ys) f x y far ((i:Int)-far) (j+1)=rowH (wY K.ys) (hY K.ys) f x y far ((i:Int)-far) j++hAt (wY K.ys) (hY K.ys) f x y ((j:Int)-far) ((i:Int)-far):=rfl
   generalize hLe:allH (wY K.ys) (hY K.ys) f x y far i=LA at *
   refine z_tas
   refine c_dvL [.blk bc 75 [.pointer (some ⟨K.g,0,none⟩)],.blk bx 3 [.int .i64 x],.blk by' 3 [.int .i64 y]] (0::1::2::3::4::5::6::7::8::9::10::11::12::[]) Sub.au ?_;intro _
   refine z_govG
   refine lfv rfl rfl rfl (fun w _=>within_any x ((j:Int)-far) w (by omega)) ?_
   refine z_govG
   refine lfv rfl rfl rfl (fun w _=>within_any y ((i:Int)-far) w (by omega)) ?_
   refine z_govG
   refine lf rfl rfl rfl (S:=K.H s2) (fun w hw ho=>height_c K s2 f (wiF x ((j:Int)-far)) (wiF y ((i:Int)-far)) (b+17*i+j) w ho hF hs2 (by omega)) ?_
   rintro v S' ⟨s3,rfl,g1,rfl⟩
   have k1:=g1.ok hF hs2
   have hz:=heightF_in (W:=wY K.ys) (H:=hY K.ys) hF.good.1 (wiF x ((j:Int)-far)) (wiF y ((i:Int)-far))
   have ex:hAt (wY K.ys) (hY K.ys) f x y ((j:Int)-far) ((i:Int)-far)=if (heightF (wY K.ys) (hY K.ys) f (wiF x ((j:Int)-far)) (wiF y ((i:Int)-far))).2=0 then [(heightF (wY K.ys) (hY K.ys) f (wiF x ((j:Int)-far)) (wiF y ((i:Int)-far))).1]else []:=rfl
   generalize heightF (wY K.ys) (hY K.ys) f (wiF x ((j:Int)-far)) (wiF y ((i:Int)-far))=hh at *
   refine z_govG
   ·rename_i h0
    refine lfc rfl rfl rfl rfl (S:=sumsE bs bq bn (LA++rowH (wY K.ys) (hY K.ys) f x y far ((i:Int)-far) j)) (fun w hw ho=>rough2_any bs bq bn _ hh.1 w ho hmem hlen hz) ?_
    rintro v S' rfl
    refine z_tas
    rw[List.append_assoc,show rowH (wY K.ys) (hY K.ys) f x y far ((i:Int)-far) j++[hh.1]=rowH (wY K.ys) (hY K.ys) f x y far ((i:Int)-far) (j+1) by rw[er,ex,if_pos h0]]
    trace_state
    exact c_round (j+1,s3) ⟨h2,by have:=k1.mono (by omega:b+17*i+j+1≤b+17*i+(j+1:Nat));exact this⟩ (by show 2*far+1-(j+1)<2*far+1-j;omega) ⟨rfl,rfl,rfl,rfl,rfl,rfl,by simp[look];omega,trivial⟩ Sub.au
   ·rename_i h0
    rw[show rowH (wY K.ys) (hY K.ys) f x y far ((i:Int)-far) j=rowH (wY K.ys) (hY K.ys) f x y far ((i:Int)-far) (j+1) by rw[er,ex,if_neg h0,List.append_nil]]
    exact c_round (j+1,s3) ⟨h2,by have:=k1.mono (by omega:b+17*i+j+1≤b+17*i+(j+1:Nat));exact this⟩ (by show 2*far+1-(j+1)<2*far+1-j;omega) ⟨rfl,rfl,rfl,rfl,rfl,rfl,by simp[look];omega,trivial⟩ Sub.au
  ·obtain rfl:j=2*far+1:=by omega
   refine z_tas
   exact c_round (i+1,s2) ⟨h1,hs2.mono (by omega)⟩ (by show 2*far+1-(i+1)<2*far+1-i;omega) ⟨rfl,rfl,rfl,rfl,rfl,by simp[look];omega,trivial⟩ (Sub.refl _)
 ·obtain rfl:i=2*far+1:=by omega
  refine z_tas
  exact j_outN rfl (Sub.refl _) ⟨s1,hs1.mono (by omega),rfl⟩
end Go.Proofs.YthajpemlpmlefaaGreat
