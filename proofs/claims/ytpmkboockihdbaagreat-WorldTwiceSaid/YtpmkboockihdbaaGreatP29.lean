import Derived.Test.YtpmkboockihdbaaGreatP27
set_option maxHeartbeats 512000000
set_option maxRecDepth 4000
set_option linter.unusedVariables false
set_option linter.unusedSimpArgs false
namespace Go.Proofs.YtpmkboockihdbaaGreat
open Go.RowKit _root_.Go.Proofs.Tryz
theorem aWo{W H:Nat}{f:List Int}{s:eK}{l:List cQ}{m times:Int}(h:tI W H f s l m times=0):mN s l=0∧kY (2*s.far+1) (2*s.far+1) s.step∧(aY W H f s l m).length≠0∧cK (jO s).p (rL W H f s l m times) (jO s).p.length≠0:=by
 unfold tI at h;split at h
 ·rename_i h1;exact absurd h h1
 ·rename_i h1;split at h
  ·cases h
  ·rename_i h2;split at h
   ·cases h
   ·rename_i h3;split at h
    ·cases h
    ·rename_i h4;exact⟨Classical.not_not.1 h1,Classical.not_not.1 h2,h3,h4⟩
theorem aPq{N:Nat}{far best times:Int}{L:List kR}(h:∀c,qL best c times=0):∀i j,(lY N far best times L i).getD j 0=0
 | 0,j=>by
  rw[lY,List.getD_eq_getElem?_getD,List.getElem?_replicate];split<;>rfl
 | i+1,j=>by
  have ih:=aPq (N:=N) (far:=far) (L:=L) h i j;rw[lY,List.getD_eq_getElem?_getD,List.getElem?_set,h];rw[List.getD_eq_getElem?_getD]at ih;split
  ·split<;>rfl
  ·exact ih
theorem aWq{W H:Nat}{f:List Int}{s:eK}{l:List cQ}{m times:Int}(h:tI W H f s l m times=0):
  let G:=tJ W H f s l m times;let b:=fJ (aY W H f s l m) (aY W H f s l m).length
  (0≤s.far∧s.far≤31)∧(G.w=2*s.far+1∧G.h=2*s.far+1∧G.st=s.step)∧kY G.w G.h G.st∧(G.p.length:Int)=G.w*G.h∧G.p.length≤4096∧dI G.p∧(1073741824-(G.p.length:Int)≤aM G.p G.p.length∧aM G.p G.p.length≤1073741824) ∧
   (-s.far≤b.i∧b.i≤s.far)∧(-s.far≤b.k∧b.k≤s.far)∧kO s.far b.i b.k<G.p.length∧((kO s.far b.i b.k:Nat):Int)=(b.k+s.far)*G.w+b.i+s.far∧∀i,i<G.p.length→G.p.getD i 0≤G.p.getD (kO s.far b.i b.k) 0:=by
 intro G b;obtain⟨hc,hok,hn,hz⟩:=aWo h;obtain⟨q0,q1,q2,q3⟩:=aOh hok;obtain⟨hp,hpc⟩:=aKn q0 q2;have hpl:=aFo (s:=s) q0;have hall:=fun i hi=>aCb (W:=W) (H:=H) (f:=f) (s:=s) (l:=l) (m:=m) (i:=i) hi;have hwl:(rL W H f s l m times).length=(jO s).p.length:=by rw[hpl];exact aC0 _
 have hww:Wt (rL W H f s l m times):=aIp _;have hz1:=(zH hp hww hwl (jO s).p.length (Nat.le_refl _)).1;obtain⟨w1,w2,w3⟩:=aPh hp hww hwl oo;have hGp:G.p=jX (jO s).p (rL W H f s l m times):=rfl;have hGl:G.p.length=(jO s).p.length:=by rw[hGp];unfold jX;exact eP _ _
 have hside:((bU s.far:Nat):Int)=2*s.far+1:=by unfold bU;omega
 obtain⟨k,hbk⟩:∃k,pL (aY W H f s l m) (aY W H f s l m).length=some k:=by
  cases hb:pL (aY W H f s l m) (aY W H f s l m).length with
  | none=>exact absurd (aJh.1 hb) hn
  | some k=>exact⟨k,rfl⟩
 have hkl:=aCi hbk;have hcb:b=(aY W H f s l m).getD k default:=(aFb (fun i hi=>(hall i hi).2.2.1.1) (Nat.le_refl _)).2 k hbk;have hb:=hall k hkl;dsimp only at hb;rw[← hcb]at hb;obtain⟨-,x2,x3⟩:=aDa (far:=s.far) (i:=b.i) (k:=b.k) ⟨hb.2.2.2.1,hb.2.2.2.2⟩;refine⟨⟨q0,q1⟩,⟨rfl,rfl,rfl⟩,hok,?_,by rw[hGl,hpl];exact q2,?_,?_,hb.2.2.2.1,hb.2.2.2.2,by rw[hGl,hpl];exact x2,x3,?_⟩
 ·rw[hGl,hpl];show ((bU s.far*bU s.far:Nat):Int)=(2*s.far+1)*(2*s.far+1);rw[← hside];push_cast;rfl
 ·intro i hi;rw[hGp];exact w1 i oo
 ·rw[hGl,hGp];exact⟨w2,w3⟩
 ·intro i hi;rw[hGp];unfold jX;rw[mT _ oo,mT _ (by rw[hpl];exact x2)];refine bCt (c:=1073741824/((bU s.far*bU s.far:Nat):Int)) oo (Int.le_of_lt (aKo ⟨q3,q2⟩).1) hpc oo (by rw[hpl];exact x2) ?_;have e1:(rL W H f s l m times).getD (kO s.far b.i b.k) 0=qL b.cost b.cost times:=by have:=aPp (N:=bU s.far*bU s.far) (far:=s.far) (best:=b.cost) (times:=times) (L:=aY W H f s l m) (fun a c ha hc he=>aQl q0 ha hc he) (fun a ha=>(aDa ⟨(hall a ha).2.2.2.1,(hall a ha).2.2.2.2⟩).2.1) (aY W H f s l m).length (Nat.le_refl _) k hkl;rw[← hcb]at this;exact this
  rw[e1];by_cases ht:1≤times∧times≤65536
  ·rw[bCu hb.2.2.1.1 hb.2.2.1.2 ht];exact(hww i oo).2
  ·exfalso;refine hz (aPo (fun j=>aPq (fun c=>?_) _ j) _);unfold qL;rw[if_pos oo]
class zQ(q:Nat)(p:List Value)(j:outParam Nat):Prop where h:q=p.length+j
instance (p:List Value):zQ p.length p 0:=⟨rfl⟩
instance (p:List Value)(j:Nat):zQ (p.length+j) p j:=⟨rfl⟩
instance (p r:List Value)(q j:Nat)(v:Value)[hp:zQ q p j][h:cZ r j v]:cZ (p++r) q v:=⟨by rw[hp.h,List.getElem?_append_right oo,Nat.add_sub_cancel_left];exact h.h⟩
instance (p r o:List Value)(q j s:Nat)[hp:zQ q p j][h:mK r j s o]:mK (p++r) q s o:=⟨by rw[hp.h,List.drop_append,List.drop_eq_nil_of_le oo,List.nil_append,Nat.add_sub_cancel_left];exact h.h⟩
instance (p r o:List Value)(q j:Nat)(v:Value)[hp:zQ q p j][h:jL r j v o]:jL (p++r) q v (p++o):=⟨by obtain⟨h1,h2⟩:=h.h;rw[hp.h];refine⟨?_,by rw[List.length_append];omega⟩;rw[List.set_append_right _ _ oo,Nat.add_sub_cancel_left,h1]⟩
instance (p r o vs:List Value)(q j:Nat)[hp:zQ q p j][h:jK r j vs o]:jK (p++r) q vs (p++o):=⟨by obtain⟨h1,h2⟩:=h.h;rw[hp.h];refine⟨?_,by rw[List.length_append];omega⟩;rw[List.take_append,List.take_of_length_le oo,Nat.add_sub_cancel_left,List.drop_append,List.drop_eq_nil_of_le oo,List.nil_append,show p.length+j+vs.length-p.length=j+vs.length by omega,← h1];simp⟩
theorem aOn(p xs ys r:List Value)(h:ys.length=xs.length):tQ (p++(xs++r)).toArray p.length ys=(p++(ys++r)).toArray:=by unfold tQ;simp only[];rw[List.take_left,h,← List.append_assoc p xs r,List.drop_left' (by rw[List.length_append]),List.append_assoc]
theorem bBp(g:Nat)(T:TypeId)(p r:List Value)(s:Ln)(f:jH)(w:World)(hown:aZ [.blk g T (p++(uJ s++r))] w)(hok:s.ok)(ha : -2147483648≤f.a∧f.a<2147483648):
  aF prog 81 [.pointer (some ⟨g,p.length,none⟩),.agg (dR f).toArray] [.blk g T (p++(uJ s++r))] w
   (fun v S'=>v=.tuple #[.int .i64 (s.take f.kind f.seq f.time f.a).2.1,.int .i64 (s.take f.kind f.seq f.time f.a).2.2.1,.bool (s.take f.kind f.seq f.time f.a).2.2.2]∧S'=[.blk g T (p++(uJ (s.take f.kind f.seq f.time f.a).1++r))]):=by
 have hg:w.heap[g]? = some (.cells (p++(uJ s++r)).toArray T (0,0)):=hown.holds _ (List.mem_cons_self ..);have H:dF w g T (p++(uJ s++r)).toArray p.length s.enc:=⟨by rw[aOn _ _ _ _ (by simp[Ln.enc])];exact hg,by simp[Ln.enc]<;>omega⟩;refine aKk ((bBu g p.length T (p++(uJ s++r)).toArray s f.kind f.seq f.time f.a f.b f.c w H hok ha.1 ha.2).mono ?_);rintro e w' ⟨he,⟨h1,h2⟩,h3⟩;rw[aOn _ _ _ _ (by simp[Ln.enc])]at h1;refine⟨_,_,he,⟨rfl,rfl⟩,⟨h3.os,h3.tape,h3.output,h3.size,fun b hb hW=>h3.block b hb (fun e=>hW ⟨_,List.mem_cons_self ..,e.symm⟩),⟨fun x hx=>?_,List.pairwise_singleton _ _⟩,fun x hx b hb=>?_⟩⟩
 ·rw[List.mem_singleton.1 hx];exact h1
 ·rw[List.mem_singleton.1 hx]at hb;exact .inl ⟨_,List.mem_cons_self ..,hb⟩
theorem gO{P:Program}{w0:World}{W:Nat→Prop}{H:List HE}{op:Op}{vs:List Value}{v v':Value}{c:Prop}(h:LV P w0 W H op vs v c)(hc:c)(e:v=v'):LV P w0 W H op vs v' True:=by subst e;exact⟨fun _=>h.h hc⟩
section
variable {P:Program} {w0:World} {W:Nat→Prop} {H:List HE}
instance (priority:=30) lv_shrI(t u:TypeId)(x y:Operand)(k k':IntKind)(a b:Int):LV P w0 W H (.binOp .shr t x y u) [.int k a,.int k' b] (.int k (a/2^b.toNat)) (0≤b∧wI k b.toNat):=⟨by
 rintro hc ρ ⟨dst,op',ty,pos,aft,gd⟩ rfl h w _;obtain⟨h1,h2⟩:=qZ h;have e:a.fdiv (2^min b.toNat k.bits)=a/2^b.toNat:=by rw[Nat.min_eq_left (yU hc.2),Int.fdiv_eq_ediv_of_nonneg _ (Int.le_of_lt (Int.pow_pos od))]
 simp only[execOp,h1,h2,eqGuard,binOp,Op.shift,if_neg (show ¬b<0 by omega),e];rfl⟩
end
section
variable {F:Fence} {n:Nat} {P:Program} {N:Nat} {ds:List Deferred} {w0:World} {W:Nat→Prop} {σ:List (Nat×Value)} {H HL:List HE} {Q:Exit→Act→World→Prop} {ops:Array Oper} {m:Nat} {rest:List Nat} {mask:List Bool}
theorem gH(h:nC ops→J N ds w0 W σ H (cL F n P w0 W HL ops (List.replicate 300 true) Q m rest))(hk:(Nat.ble ops.size 300&&xM ops)=true:=by decide +kernel):J N ds w0 W σ H (cL F n P w0 W HL ops mask Q m rest):=by simp only[Bool.and_eq_true]at hk;exact aP3 300 hk.1 (h ⟨hk.2,Nat.le_of_ble_eq_true hk.1⟩)
end
class fT(p:List Value)(n:outParam Nat):Prop where h:p.length=n
class yB(n q:Nat)(j:outParam Nat):Prop where h:q=n+j
instance (n j:Nat):yB n (no_index (j+n)) j:=⟨Nat.add_comm ..⟩
instance:fT [] 0:=⟨rfl⟩
instance (v:Value)(p:List Value)(n:Nat)[h:fT p n]:fT (v::p) (n+1):=⟨by rw[List.length_cons,h.h]⟩
instance (p q:List Value)(n m j:Nat)[hp:fT p n][hj:yB n m j][hq:tU q j]:tU (p++q) m:=⟨by rw[List.length_append,hp.h,hq.h,hj.h]⟩
instance (p q:List Value)[hp:sK p][hq:sK q]:sK (p++q):=⟨by
 intro v hv;rcases List.mem_append.1 hv with h|h
 ·exact hp.h v h
 ·exact hq.h v h⟩
instance (k:IntKind)(l:List Int):sK (aC k l):=⟨by intro v hv;obtain⟨x,-,rfl⟩:=List.mem_map.1 hv;rfl⟩
instance {α:Type}(e:α→List Value)[h:aC7 e](l:List α):sK (aR e l):=⟨by intro v hv;obtain⟨c,hc,hv⟩:=List.mem_flatten.1 hv;obtain⟨x,-,rfl⟩:=List.mem_map.1 hc;exact h.h x v hv⟩
instance oneE_smp:aC7 cD:=⟨fun a u hu=>by simp[cD]at hu;rcases hu with rfl|rfl|rfl<;>rfl⟩
section
variable {p r o:List Value} {q n j s:Nat} {v:Value} {vs:List Value}
instance (priority:=300) [hn:fT p n][hj:yB n q j][h:cZ r j v]:cZ (p++r) q v:=⟨by rw[hj.h,← hn.h,List.getElem?_append_right oo,Nat.add_sub_cancel_left];exact h.h⟩
instance (priority:=200) [h:cZ p q v]:cZ (p++r) q v:=⟨by
 have h1:=h.h;have h2:q<p.length:=by
  rcases Nat.lt_or_ge q p.length with h3|h3
  ·exact h3
  ·rw[List.getElem?_eq_none h3]at h1;cases h1
 rw[List.getElem?_append_left h2];exact h1⟩
instance (priority:=300) [hn:fT p n][hj:yB n q j][h:mK r j s o]:mK (p++r) q s o:=⟨by rw[hj.h,← hn.h,List.drop_append,List.drop_eq_nil_of_le oo,List.nil_append,Nat.add_sub_cancel_left];exact h.h⟩
instance (priority:=200) [h:mK p q s o]:mK (p++r) q s o:=⟨by
 obtain⟨h1,h2⟩:=h.h;refine⟨?_,h2⟩;have h3:=congrArg List.length h1;rw[List.length_take,List.length_drop,h2]at h3;rw[← h1,List.drop_append];rcases Nat.eq_zero_or_pos s with h0|h0
 ·rw[h0];simp
 ·rw[List.take_append_of_le_length (by rw[List.length_drop];omega)]⟩
instance (priority:=300) [hn:fT p n][hj:yB n q j][h:jL r j v o]:jL (p++r) q v (p++o):=⟨by obtain⟨h1,h2⟩:=h.h;rw[hj.h,← hn.h];refine⟨?_,by rw[List.length_append];omega⟩;rw[List.set_append_right _ _ oo,Nat.add_sub_cancel_left,h1]⟩
instance (priority:=300) [hn:fT p n][hj:yB n q j][h:jK r j vs o]:jK (p++r) q vs (p++o):=⟨by obtain⟨h1,h2⟩:=h.h;rw[hj.h,← hn.h];refine⟨?_,by rw[List.length_append];omega⟩;rw[List.take_append,List.take_of_length_le oo,Nat.add_sub_cancel_left,List.drop_append,List.drop_eq_nil_of_le oo,List.nil_append,show p.length+j+vs.length-p.length=j+vs.length by omega,← h1];simp⟩
instance (priority:=400) [hn:fT p n][hm:fT vs n]:jK (p++r) 0 vs (vs++r):=⟨by refine⟨?_,by rw[List.length_append,hn.h,hm.h];omega⟩;rw[Nat.zero_add,hm.h,← hn.h,List.take_zero,List.nil_append,List.drop_left]⟩
instance (priority:=300) [hn:fT p n][hj:yB n q j][h:Tk r j o]:Tk (p++r) q (p++o):=⟨by obtain⟨h1,h2⟩:=h.h;rw[hj.h,← hn.h,List.take_append,List.take_of_length_le oo,Nat.add_sub_cancel_left,h1];exact⟨rfl,by rw[List.length_append,h2,Nat.add_comm]⟩⟩
theorem aY2{p p' r vs o:List Value}{n:Nat}(hn:p.length=n)(hm:p'.length=n)(h:jK r 0 vs o):jK (p++r) 0 (p'++vs) (p'++o):=⟨by obtain⟨h1,h2⟩:=h.h;refine⟨?_,by rw[List.length_append,List.length_append,hn,hm];omega⟩;rw[List.take_zero,List.nil_append,Nat.zero_add]at h1;rw[List.take_zero,List.nil_append,Nat.zero_add,List.length_append,hm,List.drop_append,List.drop_eq_nil_of_le oo,List.nil_append,hn,Nat.add_sub_cancel_left,List.append_assoc,h1]⟩
instance (priority:=500) {p':List Value}[hn:fT p n][hm:fT p' n][h:jK r 0 vs o]:jK (p++r) 0 (p'++vs) (p'++o):=aY2 hn.h hm.h h
end
@[reducible] def aHy(c:dJ):List Value:=[.int .u32 c.age,.int .i64 c.jump,.int .i64 c.throw,.int .i64 c.rmost]
@[reducible] def aBg(c:dJ):List Value:=[.int .i64 c.second,.int .i64 c.trust,.int .i64 c.over,.int .i64 c.miss,.int .i64 c.power,.int .i64 c.tries]
@[reducible] def qP(c:dJ):List Value:=[.int .u32 c.age,.int .i64 c.jump,.int .i64 c.throw,.int .i64 c.rmost,.int .i64 c.second,.int .i64 c.trust,.int .i64 c.over,.int .i64 c.miss,.int .i64 c.power,.int .i64 c.tries,.int .i64 c.noi.sig,.int .i64 c.noi.flo,.int .i64 c.noi.gate,.int .i64 c.far,.int .i64 c.step,.int .i64 c.gap,.int .i64 c.need,.int .i64 c.meas,.int .i64 c.away,.int .i64 c.num,.int .i64 c.den,.int .i64 c.times,.int .i64 c.spread]
@[reducible] def eZ(p:lB)(r:List Value):List Value:=aR cD p.l++(.int .i64 p.first::.int .i64 p.n::.int .i64 p.x::.int .i64 p.y::.int .i64 p.gap::r)
@[reducible] def jI(c:dJ)(w:qO)(r:List Value):List Value:=.int .i64 c.second::.int .i64 c.trust::.int .i64 c.over::.int .i64 c.miss::.int .i64 c.power::.int .i64 c.tries::(aC .i64 w.l++(.int .i64 w.n::.int .i64 w.miss::r))
theorem aF1{α:Type}[Inhabited α](l:List α)(i:Nat)(h:i<l.length):l=l.take i++(l.getD i default::l.drop (i+1)):=by
 conv=>lhs;rw[← List.take_append_drop i l,List.drop_eq_getElem_cons h]
 rw[List.getD_eq_getElem?_getD,List.getElem?_eq_getElem h];rfl
theorem aOd{α:Type}(l:List α)(i:Nat)(h:i<l.length)(v:α):l.set i v=l.take i++(v::l.drop (i+1)):=by rw[List.set_eq_take_append_cons_drop,if_pos h]
theorem aKg{α:Type}[Inhabited α]{e:α→List Value}{s:Nat}[hE:pX e s](l:List α)(i:Nat)(h:i<l.length)(r:List Value):mK (aR e l++r) (i*s) s (e (l.getD i default)):=⟨by
 have e1:=congrArg (aR e) (aF1 l i h);rw[show l.take i++(l.getD i default::l.drop (i+1))=l.take i++([l.getD i default]++l.drop (i+1))from rfl,sS,sS,uF]at e1;have hl:(aR e (l.take i)).length=i*s:=by rw[lF,List.length_take,Nat.min_eq_left oo]
 have hv:(e (l.getD i default)).length=s:=by have:=lF (e:=e) [l.getD i default];rw[uF]at this;simpa using this
 rw[e1,List.append_assoc,← hl,List.drop_left,List.append_assoc,← hv,List.take_left];exact⟨rfl,rfl⟩⟩
theorem aXz{α:Type}[Inhabited α]{e:α→List Value}{s:Nat}[hE:pX e s](l:List α)(i:Nat)(h:i<l.length)(v:α)(r:List Value):jK (aR e l++r) (i*s) (e v) (aR e (l.set i v)++r):=⟨by
 have e1:=congrArg (aR e) (aF1 l i h);rw[show l.take i++(l.getD i default::l.drop (i+1))=l.take i++([l.getD i default]++l.drop (i+1))from rfl,sS,sS,uF]at e1;have e2:=congrArg (aR e) (aOd l i h v);rw[show l.take i++(v::l.drop (i+1))=l.take i++([v]++l.drop (i+1))from rfl,sS,sS,uF]at e2;have hl:(aR e (l.take i)).length=i*s:=by rw[lF,List.length_take,Nat.min_eq_left oo]
 have hv:(e (l.getD i default)).length=s:=by have:=lF (e:=e) [l.getD i default];rw[uF]at this;simpa using this
 have hv2:(e v).length=s:=by have:=lF (e:=e) [v];rw[uF]at this;simpa using this
 rw[e1,e2];refine⟨?_,by simp only[List.length_append];omega⟩;rw[List.append_assoc,List.append_assoc,← hl,List.take_left,hv2,← hv];generalize aR e (l.take i)=A;generalize e (l.getD i default)=B;generalize aR e (l.drop (i+1))=C;have e3:A++(B++C++r)=(A++B)++(C++r):=aE;rw[e3,← List.length_append,List.drop_left];simp⟩
theorem aUj(l:List Int)(i:Nat)(h:i<l.length)(r:List Value):cZ (aC .i64 l++r) i (.int .i64 (l.getD i 0)):=⟨by rw[List.getElem?_append_left (by simpa using h)];exact(inferInstance:rM (aC .i64 l) i (.int .i64 (l.getD i 0)) (i<l.length)).h h⟩
theorem bAv(l:List Int)(i:Nat)(h:i<l.length)(v:Int)(r:List Value):jL (aC .i64 l++r) i (.int .i64 v) (aC .i64 (l.set i v)++r):=⟨by refine⟨?_,by rw[List.length_append,gN];omega⟩;rw[List.set_append_left _ _ (by simpa using h)];simp[aC,List.map_set]⟩
