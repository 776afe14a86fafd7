import Derived.Test.YtbhchphfmhmabaaGreatP27
set_option maxHeartbeats 512000000
set_option maxRecDepth 4000
set_option linter.unusedVariables false
set_option linter.unusedSimpArgs false
namespace Go.Proofs.YtbhchphfmhmabaaGreat
open Go.RowKit _root_.Go.Proofs.Tryz
class yT(q:Nat)(p:List Value)(j:outParam Nat):Prop where h:q=p.length+j
instance (p:List Value):yT p.length p 0:=⟨rfl⟩
instance (p:List Value)(j:Nat):yT (p.length+j) p j:=⟨rfl⟩
instance (p r:List Value)(q j:Nat)(v:Value)[hp:yT q p j][h:dG r j v]:dG (p++r) q v:=⟨by rw[hp.h,List.getElem?_append_right oo,Nat.add_sub_cancel_left];exact h.h⟩
instance (p r o:List Value)(q j s:Nat)[hp:yT q p j][h:lL r j s o]:lL (p++r) q s o:=⟨by rw[hp.h,List.drop_append,List.drop_eq_nil_of_le oo,List.nil_append,Nat.add_sub_cancel_left];exact h.h⟩
instance (p r o:List Value)(q j:Nat)(v:Value)[hp:yT q p j][h:kF r j v o]:kF (p++r) q v (p++o):=⟨by obtain⟨h1,h2⟩:=h.h;rw[hp.h];refine⟨?_,by rw[List.length_append];omega⟩;rw[List.set_append_right _ _ oo,Nat.add_sub_cancel_left,h1]⟩
instance (p r o vs:List Value)(q j:Nat)[hp:yT q p j][h:jD r j vs o]:jD (p++r) q vs (p++o):=⟨by obtain⟨h1,h2⟩:=h.h;rw[hp.h];refine⟨?_,by rw[List.length_append];omega⟩;rw[List.take_append,List.take_of_length_le oo,Nat.add_sub_cancel_left,List.drop_append,List.drop_eq_nil_of_le oo,List.nil_append,show p.length+j+vs.length-p.length=j+vs.length by omega,← h1];simp⟩
theorem aNq(p xs ys r:List Value)(h:ys.length=xs.length):sW (p++(xs++r)).toArray p.length ys=(p++(ys++r)).toArray:=by unfold sW;simp only[];rw[List.take_left,h,← List.append_assoc p xs r,List.drop_left' (by rw[List.length_append]),List.append_assoc]
theorem bBh(g:Nat)(T:TypeId)(p r:List Value)(s:Ln)(f:lM)(w:World)(hown:aZ [.blk g T (p++(tO s++r))] w)(hok:s.ok)(ha : -2147483648≤f.a∧f.a<2147483648):
  aF prog 64 [.pointer (some ⟨g,p.length,none⟩),.agg (dU f).toArray] [.blk g T (p++(tO s++r))] w
   (fun v S'=>v=.tuple #[.int .i64 (s.take f.kind f.seq f.time f.a).2.1,.int .i64 (s.take f.kind f.seq f.time f.a).2.2.1,.bool (s.take f.kind f.seq f.time f.a).2.2.2]∧S'=[.blk g T (p++(tO (s.take f.kind f.seq f.time f.a).1++r))]):=by
 have hg:w.heap[g]? = some (.cells (p++(tO s++r)).toArray T (0,0)):=hown.holds _ (List.mem_cons_self ..);have H:dA w g T (p++(tO s++r)).toArray p.length s.enc:=⟨by rw[aNq _ _ _ _ (by simp[Ln.enc])];exact hg,by simp[Ln.enc]<;>omega⟩;refine aJt ((bBm g p.length T (p++(tO s++r)).toArray s f.kind f.seq f.time f.a f.b f.c w H hok ha.1 ha.2).mono ?_);rintro e w' ⟨he,⟨h1,h2⟩,h3⟩;rw[aNq _ _ _ _ (by simp[Ln.enc])]at h1;refine⟨_,_,he,⟨rfl,rfl⟩,⟨h3.os,h3.tape,h3.output,h3.size,fun b hb hW=>h3.block b hb (fun e=>hW ⟨_,List.mem_cons_self ..,e.symm⟩),⟨fun x hx=>?_,List.pairwise_singleton _ _⟩,fun x hx b hb=>?_⟩⟩
 ·rw[List.mem_singleton.1 hx];exact h1
 ·rw[List.mem_singleton.1 hx]at hb;exact .inl ⟨_,List.mem_cons_self ..,hb⟩
theorem gH{P:Program}{w0:World}{W:Nat→Prop}{H:List HE}{op:Op}{vs:List Value}{v v':Value}{c:Prop}(h:LV P w0 W H op vs v c)(hc:c)(e:v=v'):LV P w0 W H op vs v' True:=by subst e;exact⟨fun _=>h.h hc⟩
section
variable {P:Program} {w0:World} {W:Nat→Prop} {H:List HE}
instance (priority:=30) lv_shrI(t u:TypeId)(x y:Operand)(k k':IntKind)(a b:Int):LV P w0 W H (.binOp .shr t x y u) [.int k a,.int k' b] (.int k (a/2^b.toNat)) (0≤b∧vO k b.toNat):=⟨by
 rintro hc ρ ⟨dst,op',ty,pos,aft,gd⟩ rfl h w _;obtain⟨h1,h2⟩:=sK h;have e:a.fdiv (2^min b.toNat k.bits)=a/2^b.toNat:=by rw[Nat.min_eq_left (xX hc.2),Int.fdiv_eq_ediv_of_nonneg _ (Int.le_of_lt (Int.pow_pos od))]
 simp only[execOp,h1,h2,eqGuard,binOp,Op.shift,if_neg (show ¬b<0 by omega),e];rfl⟩
end
section
variable {F:Fence} {n:Nat} {P:Program} {N:Nat} {ds:List Deferred} {w0:World} {W:Nat→Prop} {σ:List (Nat×Value)} {H HL:List HE} {Q:Exit→Act→World→Prop} {ops:Array Oper} {m:Nat} {rest:List Nat} {mask:List Bool}
theorem fX(h:mA ops→J N ds w0 W σ H (cC F n P w0 W HL ops (List.replicate 300 true) Q m rest))(hk:(Nat.ble ops.size 300&&wR ops)=true:=by decide +kernel):J N ds w0 W σ H (cC F n P w0 W HL ops mask Q m rest):=by simp only[Bool.and_eq_true]at hk;exact aO8 300 hk.1 (h ⟨hk.2,Nat.le_of_ble_eq_true hk.1⟩)
end
class fF(p:List Value)(n:outParam Nat):Prop where h:p.length=n
class xG(n q:Nat)(j:outParam Nat):Prop where h:q=n+j
instance (n j:Nat):xG n (no_index (j+n)) j:=⟨Nat.add_comm ..⟩
instance:fF [] 0:=⟨rfl⟩
instance (v:Value)(p:List Value)(n:Nat)[h:fF p n]:fF (v::p) (n+1):=⟨by rw[List.length_cons,h.h]⟩
instance (p q:List Value)(n m j:Nat)[hp:fF p n][hj:xG n m j][hq:uG q j]:uG (p++q) m:=⟨by rw[List.length_append,hp.h,hq.h,hj.h]⟩
instance (p q:List Value)[hp:rM p][hq:rM q]:rM (p++q):=⟨by
 intro v hv;rcases List.mem_append.1 hv with h|h
 ·exact hp.h v h
 ·exact hq.h v h⟩
instance (k:IntKind)(l:List Int):rM (aD k l):=⟨by intro v hv;obtain⟨x,-,rfl⟩:=List.mem_map.1 hv;rfl⟩
instance {α:Type}(e:α→List Value)[h:aI1 e](l:List α):rM (aO e l):=⟨by intro v hv;obtain⟨c,hc,hv⟩:=List.mem_flatten.1 hv;obtain⟨x,-,rfl⟩:=List.mem_map.1 hc;exact h.h x v hv⟩
instance oneE_smp:aI1 bV:=⟨fun a u hu=>by simp[bV]at hu;rcases hu with rfl|rfl|rfl<;>rfl⟩
section
variable {p r o:List Value} {q n j s:Nat} {v:Value} {vs:List Value}
instance (priority:=300) [hn:fF p n][hj:xG n q j][h:dG r j v]:dG (p++r) q v:=⟨by rw[hj.h,← hn.h,List.getElem?_append_right oo,Nat.add_sub_cancel_left];exact h.h⟩
instance (priority:=200) [h:dG p q v]:dG (p++r) q v:=⟨by
 have h1:=h.h;have h2:q<p.length:=by
  rcases Nat.lt_or_ge q p.length with h3|h3
  ·exact h3
  ·rw[List.getElem?_eq_none h3]at h1;cases h1
 rw[List.getElem?_append_left h2];exact h1⟩
instance (priority:=300) [hn:fF p n][hj:xG n q j][h:lL r j s o]:lL (p++r) q s o:=⟨by rw[hj.h,← hn.h,List.drop_append,List.drop_eq_nil_of_le oo,List.nil_append,Nat.add_sub_cancel_left];exact h.h⟩
instance (priority:=200) [h:lL p q s o]:lL (p++r) q s o:=⟨by
 obtain⟨h1,h2⟩:=h.h;refine⟨?_,h2⟩;have h3:=congrArg List.length h1;rw[List.length_take,List.length_drop,h2]at h3;rw[← h1,List.drop_append];rcases Nat.eq_zero_or_pos s with h0|h0
 ·rw[h0];simp
 ·rw[List.take_append_of_le_length (by rw[List.length_drop];omega)]⟩
instance (priority:=300) [hn:fF p n][hj:xG n q j][h:kF r j v o]:kF (p++r) q v (p++o):=⟨by obtain⟨h1,h2⟩:=h.h;rw[hj.h,← hn.h];refine⟨?_,by rw[List.length_append];omega⟩;rw[List.set_append_right _ _ oo,Nat.add_sub_cancel_left,h1]⟩
instance (priority:=300) [hn:fF p n][hj:xG n q j][h:jD r j vs o]:jD (p++r) q vs (p++o):=⟨by obtain⟨h1,h2⟩:=h.h;rw[hj.h,← hn.h];refine⟨?_,by rw[List.length_append];omega⟩;rw[List.take_append,List.take_of_length_le oo,Nat.add_sub_cancel_left,List.drop_append,List.drop_eq_nil_of_le oo,List.nil_append,show p.length+j+vs.length-p.length=j+vs.length by omega,← h1];simp⟩
instance (priority:=400) [hn:fF p n][hm:fF vs n]:jD (p++r) 0 vs (vs++r):=⟨by refine⟨?_,by rw[List.length_append,hn.h,hm.h];omega⟩;rw[Nat.zero_add,hm.h,← hn.h,List.take_zero,List.nil_append,List.drop_left]⟩
instance (priority:=300) [hn:fF p n][hj:xG n q j][h:Tk r j o]:Tk (p++r) q (p++o):=⟨by obtain⟨h1,h2⟩:=h.h;rw[hj.h,← hn.h,List.take_append,List.take_of_length_le oo,Nat.add_sub_cancel_left,h1];exact⟨rfl,by rw[List.length_append,h2,Nat.add_comm]⟩⟩
theorem aXo{p p' r vs o:List Value}{n:Nat}(hn:p.length=n)(hm:p'.length=n)(h:jD r 0 vs o):jD (p++r) 0 (p'++vs) (p'++o):=⟨by obtain⟨h1,h2⟩:=h.h;refine⟨?_,by rw[List.length_append,List.length_append,hn,hm];omega⟩;rw[List.take_zero,List.nil_append,Nat.zero_add]at h1;rw[List.take_zero,List.nil_append,Nat.zero_add,List.length_append,hm,List.drop_append,List.drop_eq_nil_of_le oo,List.nil_append,hn,Nat.add_sub_cancel_left,List.append_assoc,h1]⟩
instance (priority:=500) {p':List Value}[hn:fF p n][hm:fF p' n][h:jD r 0 vs o]:jD (p++r) 0 (p'++vs) (p'++o):=aXo hn.h hm.h h
end
@[reducible] def aH9(c:dF):List Value:=[.int .u32 c.age,.int .i64 c.jump,.int .i64 c.throw,.int .i64 c.rmost]
@[reducible] def aAu(c:dF):List Value:=[.int .i64 c.second,.int .i64 c.trust,.int .i64 c.over,.int .i64 c.miss,.int .i64 c.power,.int .i64 c.tries]
@[reducible] def aAe(c:dF):List Value:=[.int .u32 c.age,.int .i64 c.jump,.int .i64 c.throw,.int .i64 c.rmost,.int .i64 c.second,.int .i64 c.trust,.int .i64 c.over,.int .i64 c.miss,.int .i64 c.power,.int .i64 c.tries,.int .i64 c.noi.sig,.int .i64 c.noi.flo,.int .i64 c.noi.gate,.int .i64 c.far,.int .i64 c.step,.int .i64 c.gap,.int .i64 c.need,.int .i64 c.meas,.int .i64 c.away,.int .i64 c.num,.int .i64 c.den,.int .i64 c.times,.int .i64 c.spread]
@[reducible] def eE(p:kE)(r:List Value):List Value:=aO bV p.l++(.int .i64 p.first::.int .i64 p.n::.int .i64 p.x::.int .i64 p.y::.int .i64 p.gap::r)
@[reducible] def gQ(c:dF)(w:pK)(r:List Value):List Value:=.int .i64 c.second::.int .i64 c.trust::.int .i64 c.over::.int .i64 c.miss::.int .i64 c.power::.int .i64 c.tries::(aD .i64 w.l++(.int .i64 w.n::.int .i64 w.miss::r))
theorem aEg{α:Type}[Inhabited α](l:List α)(i:Nat)(h:i<l.length):l=l.take i++(l.getD i default::l.drop (i+1)):=by
 conv=>lhs;rw[← List.take_append_drop i l,List.drop_eq_getElem_cons h]
 rw[List.getD_eq_getElem?_getD,List.getElem?_eq_getElem h];rfl
theorem aNg{α:Type}(l:List α)(i:Nat)(h:i<l.length)(v:α):l.set i v=l.take i++(v::l.drop (i+1)):=by rw[List.set_eq_take_append_cons_drop,if_pos h]
theorem aJp{α:Type}[Inhabited α]{e:α→List Value}{s:Nat}[hE:oN e s](l:List α)(i:Nat)(h:i<l.length)(r:List Value):lL (aO e l++r) (i*s) s (e (l.getD i default)):=⟨by
 have e1:=congrArg (aO e) (aEg l i h);rw[show l.take i++(l.getD i default::l.drop (i+1))=l.take i++([l.getD i default]++l.drop (i+1))from rfl,rV,rV,tK]at e1;have hl:(aO e (l.take i)).length=i*s:=by rw[kJ,List.length_take,Nat.min_eq_left oo]
 have hv:(e (l.getD i default)).length=s:=by have:=kJ (e:=e) [l.getD i default];rw[tK]at this;simpa using this
 rw[e1,List.append_assoc,← hl,List.drop_left,List.append_assoc,← hv,List.take_left];exact⟨rfl,rfl⟩⟩
theorem aXl{α:Type}[Inhabited α]{e:α→List Value}{s:Nat}[hE:oN e s](l:List α)(i:Nat)(h:i<l.length)(v:α)(r:List Value):jD (aO e l++r) (i*s) (e v) (aO e (l.set i v)++r):=⟨by
 have e1:=congrArg (aO e) (aEg l i h);rw[show l.take i++(l.getD i default::l.drop (i+1))=l.take i++([l.getD i default]++l.drop (i+1))from rfl,rV,rV,tK]at e1;have e2:=congrArg (aO e) (aNg l i h v);rw[show l.take i++(v::l.drop (i+1))=l.take i++([v]++l.drop (i+1))from rfl,rV,rV,tK]at e2;have hl:(aO e (l.take i)).length=i*s:=by rw[kJ,List.length_take,Nat.min_eq_left oo]
 have hv:(e (l.getD i default)).length=s:=by have:=kJ (e:=e) [l.getD i default];rw[tK]at this;simpa using this
 have hv2:(e v).length=s:=by have:=kJ (e:=e) [v];rw[tK]at this;simpa using this
 rw[e1,e2];refine⟨?_,by simp only[List.length_append];omega⟩;rw[List.append_assoc,List.append_assoc,← hl,List.take_left,hv2,← hv];generalize aO e (l.take i)=A;generalize e (l.getD i default)=B;generalize aO e (l.drop (i+1))=C;have e3:A++(B++C++r)=(A++B)++(C++r):=aE;rw[e3,← List.length_append,List.drop_left];simp⟩
theorem aTy(l:List Int)(i:Nat)(h:i<l.length)(r:List Value):dG (aD .i64 l++r) i (.int .i64 (l.getD i 0)):=⟨by rw[List.getElem?_append_left (by simpa using h)];exact(inferInstance:rI (aD .i64 l) i (.int .i64 (l.getD i 0)) (i<l.length)).h h⟩
theorem bAn(l:List Int)(i:Nat)(h:i<l.length)(v:Int)(r:List Value):kF (aD .i64 l++r) i (.int .i64 v) (aD .i64 (l.set i v)++r):=⟨by refine⟨?_,by rw[List.length_append,fW];omega⟩;rw[List.set_append_left _ _ (by simpa using h)];simp[aD,List.map_set]⟩
theorem aW5{W H:Nat}{f:List Int}{s:dV}{l:List cK}{m times:Int}(h:sM W H f s l m times=0):lP s l=0∧kC (2*s.far+1) (2*s.far+1) s.step∧(aT W H f s l m).length≠0∧cB (gV s).p (qI W H f s l m times) (gV s).p.length≠0:=by
 unfold sM at h;split at h
 ·rename_i h1;exact absurd h h1
 ·rename_i h1;split at h
  ·cases h
  ·rename_i h2;split at h
   ·cases h
   ·rename_i h3;split at h
    ·cases h
    ·rename_i h4;exact⟨Classical.not_not.1 h1,Classical.not_not.1 h2,h3,h4⟩
theorem aOy{N:Nat}{far best times:Int}{L:List jW}(h:∀c,pI best c times=0):∀i j,(lD N far best times L i).getD j 0=0
 | 0,j=>by
  rw[lD,List.getD_eq_getElem?_getD,List.getElem?_replicate];split<;>rfl
 | i+1,j=>by
  have ih:=aOy (N:=N) (far:=far) (L:=L) h i j;rw[lD,List.getD_eq_getElem?_getD,List.getElem?_set,h];rw[List.getD_eq_getElem?_getD]at ih;split
  ·split<;>rfl
  ·exact ih
theorem aW7{W H:Nat}{f:List Int}{s:dV}{l:List cK}{m times:Int}(h:sM W H f s l m times=0):
  let G:=sN W H f s l m times;let b:=eW (aT W H f s l m) (aT W H f s l m).length
  (0≤s.far∧s.far≤31)∧(G.w=2*s.far+1∧G.h=2*s.far+1∧G.st=s.step)∧kC G.w G.h G.st∧(G.p.length:Int)=G.w*G.h∧G.p.length≤4096∧dY G.p∧(1073741824-(G.p.length:Int)≤aL G.p G.p.length∧aL G.p G.p.length≤1073741824) ∧
   (-s.far≤b.i∧b.i≤s.far)∧(-s.far≤b.k∧b.k≤s.far)∧jO s.far b.i b.k<G.p.length∧((jO s.far b.i b.k:Nat):Int)=(b.k+s.far)*G.w+b.i+s.far∧∀i,i<G.p.length→G.p.getD i 0≤G.p.getD (jO s.far b.i b.k) 0:=by
 intro G b;obtain⟨hc,hok,hn,hz⟩:=aW5 h;obtain⟨q0,q1,q2,q3⟩:=aNk hok;obtain⟨hp,hpc⟩:=aJw q0 q2;have hpl:=aF2 (s:=s) q0;have hall:=fun i hi=>aBm (W:=W) (H:=H) (f:=f) (s:=s) (l:=l) (m:=m) (i:=i) hi;have hwl:(qI W H f s l m times).length=(gV s).p.length:=by rw[hpl];exact aBb _
 have hww:Wt (qI W H f s l m times):=aHy _;have hz1:=(yK hp hww hwl (gV s).p.length (Nat.le_refl _)).1;obtain⟨w1,w2,w3⟩:=aOn hp hww hwl oo;have hGp:G.p=jC (gV s).p (qI W H f s l m times):=rfl;have hGl:G.p.length=(gV s).p.length:=by rw[hGp];unfold jC;exact fQ _ _
 have hside:((bR s.far:Nat):Int)=2*s.far+1:=by unfold bR;omega
 obtain⟨k,hbk⟩:∃k,oC (aT W H f s l m) (aT W H f s l m).length=some k:=by
  cases hb:oC (aT W H f s l m) (aT W H f s l m).length with
  | none=>exact absurd (aIq.1 hb) hn
  | some k=>exact⟨k,rfl⟩
 have hkl:=aBt hbk;have hcb:b=(aT W H f s l m).getD k default:=(aEq (fun i hi=>(hall i hi).2.2.1.1) (Nat.le_refl _)).2 k hbk;have hb:=hall k hkl;dsimp only at hb;rw[← hcb]at hb;obtain⟨-,x2,x3⟩:=aCq (far:=s.far) (i:=b.i) (k:=b.k) ⟨hb.2.2.2.1,hb.2.2.2.2⟩;refine⟨⟨q0,q1⟩,⟨rfl,rfl,rfl⟩,hok,?_,by rw[hGl,hpl];exact q2,?_,?_,hb.2.2.2.1,hb.2.2.2.2,by rw[hGl,hpl];exact x2,x3,?_⟩
 ·rw[hGl,hpl];show ((bR s.far*bR s.far:Nat):Int)=(2*s.far+1)*(2*s.far+1);rw[← hside];push_cast;rfl
 ·intro i hi;rw[hGp];exact w1 i oo
 ·rw[hGl,hGp];exact⟨w2,w3⟩
 ·intro i hi;rw[hGp];unfold jC;rw[nB _ oo,nB _ (by rw[hpl];exact x2)];refine bCl (c:=1073741824/((bR s.far*bR s.far:Nat):Int)) oo (Int.le_of_lt (aJx ⟨q3,q2⟩).1) hpc oo (by rw[hpl];exact x2) ?_;have e1:(qI W H f s l m times).getD (jO s.far b.i b.k) 0=pI b.cost b.cost times:=by have:=aOx (N:=bR s.far*bR s.far) (far:=s.far) (best:=b.cost) (times:=times) (L:=aT W H f s l m) (fun a c ha hc he=>aPv q0 ha hc he) (fun a ha=>(aCq ⟨(hall a ha).2.2.2.1,(hall a ha).2.2.2.2⟩).2.1) (aT W H f s l m).length (Nat.le_refl _) k hkl;rw[← hcb]at this;exact this
  rw[e1];by_cases ht:1≤times∧times≤65536
  ·rw[bCm hb.2.2.1.1 hb.2.2.1.2 ht];exact(hww i oo).2
  ·exfalso;refine hz (aOw (fun j=>aOy (fun c=>?_) _ j) _);unfold pI;rw[if_pos oo]
