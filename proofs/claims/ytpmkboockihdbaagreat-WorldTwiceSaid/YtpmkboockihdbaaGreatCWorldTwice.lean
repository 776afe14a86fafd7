/- What comes twice counts once: a navigator to which each frame comes twice is at one with one to which each comes once. No condition. -/
import Derived.ProofKit
import Derived.Deep.Slices
import Derived.Deep.Fields
import Derived.ChangeSame
import Derived.Lib.SmallJoins
import Derived.Carry
import Derived.Test.YtpmkboockihdbaaGreatP53
import Derived.Test.YtpmkboockihdbaaGreatXWorldTwice
set_option maxHeartbeats 512000000
set_option maxRecDepth 4000
set_option linter.unusedVariables false
set_option linter.unusedSimpArgs false
namespace Go.Proofs.YtpmkboockihdbaaGreat
open Go.ChangeAt Go.ChangeShapes Go.Deep Go.Joins Go.RowKit Go.WideShapes _root_.Go.Proofs.Tryz
theorem bDz{P:Program}{f:FuncId}{args:List Value}{w:World}{v0:Value}(h:aF P f args [] w (fun v _=>v=v0)):Calls P f args.toArray w fun e w'=>e=.returned v0∧Below w.heap.size w w':=by refine h.calls.mono ?_;rintro e w' ⟨v,S',rfl,rfl,hst⟩;exact⟨rfl,hst.os,hst.tape,hst.output,hst.size,fun k hk=>hst.old k hk (by rintro⟨x,hx,_⟩;cases hx)⟩
section
variable {H:Type} {enc:TypeId×Value→H} {P:Program} {w:World} {base:Nat} {spare:Nat→Bool} {held:Bool}
theorem bEn{f:Func}{s:ChangeSpec}{apart fresh handsOn again:Bool}{W W':World}{args:Array Value}{v:Value}{ds gs:List (DataW H)}{before pa pv:List MemPlace}
  (hW:DataW.Whole enc P f.params.toList s.vars apart W args.toList ds gs before)
  (hres:∀(b:Nat) (sp:Nat→Bool) (hd:Bool),DataW.TrodAll enc P W' b sp hd f.resultTypes.toList (v.resultList f.resultTypes.size) (s.fn H (ds++gs)).results [])
  (hargs:∀sp:Nat→Bool,(∀p∈before,sp p.block=true)→DataW.TrodAll enc P W' 0 sp true f.params.toList args.toList (s.fn H (ds++gs)).args pa)
  (hvars:∀sp:Nat→Bool,(∀p∈before,sp p.block=true)→DataW.TrodVars enc P W' sp s.vars (s.fn H (ds++gs)).vars pv)
  (hps:before=pa++pv) (hb:Below W.heap.size W W')
  (hok:∀(j:Nat) (t:TypeId) (r:Value),f.resultTypes[j]? = some t→(v.resultList f.resultTypes.size)[j]? = some r→Value.okWide P W' .any 0 t r) :
  s.post enc P f apart fresh handsOn again W args v W':=by
 have hlt:∀p∈before,p.block<W.heap.size:=fun p hp=>hW.lt p hp;have hold:∀p∈before,(fun b=>decide (b<W.heap.size)) p.block=true:=fun p hp=>by simpa using hlt p hp
 refine⟨ds,gs,before,[],pa,pv,hW,hres _ _ _,hargs _ hold,hvars _ hold,World.keptBut_mono (fun p hp=>⟨hp,?_⟩) (hb.frame (·∈before)),fun _=>?_⟩
 ·rw[hps,List.mem_append]at hp;exact Or.inr hp
 ·obtain⟨_,_,_,_,_,hz,hn⟩:=hW;refine⟨hok,_,_,([]++pa)++pv,⟨[]++pa,pv,trodAll_append (hargs _ (fun _ _=>rfl)) (hres _ _ _),hvars _ (fun _ _=>rfl),rfl,?_,?_⟩,?_⟩
  ·intro b off hp;have hin:MemPlace.cell b off∈before:=by rw[hps];simpa using hp
   rw[hb.frozen (hlt _ hin)];exact hz b off hin
  ·intro ha;have:=hn ha;rw[hps]at this;simpa using this
  ·intro p hp _;rw[hps];simpa using hp
theorem bDs(hl:laidOutB P=true){W W':World}{sp':Nat→Bool}: ∀(ts:List TypeId) (vs:List Value) (ds:List (DataW H)) (ps:List MemPlace),(∀t∈ts,P.readableRec t=true∧t<P.types.size) →
  DataW.TrodAll enc P W base (fun _=>true) true ts vs ds ps→(∀p∈ps,W.sameAt W' p)→(∀p∈ps,sp' p.block=true)→DataW.TrodAll enc P W' base sp' true ts vs ds ps
 | [],[],[],ps,_,h,_,_=>h
 | t::ts,v::vs,d::ds,ps,hr,h,hs,hsp=>by
  obtain⟨p,q,h1,h2,rfl⟩:=h;have ht:=hr t aE;exact⟨p,q,Go.WideElems.Trod_stays hl ht.1 ht.2 h1 (fun x hx=>hs x (by simp[hx])) (fun x hx=>hsp x (by simp[hx])),bDs hl ts vs ds q (fun t ht=>hr t (by simp[ht])) h2 (fun x hx=>hs x (by simp[hx])) (fun x hx=>hsp x (by simp[hx])),rfl⟩
 | [],_::_,_,_,_,h,_,_=>h.elim
 | [],[],_::_,_,_,h,_,_=>h.elim
 | _::_,[],_,_,_,h,_,_=>h.elim
 | _::_,_::_,[],_,_,h,_,_=>h.elim
theorem bDr:∀(ts:List TypeId) (vs:List Value) (ds:List (DataW H)) (ps:List MemPlace),DataW.TrodAll enc P w base spare held ts vs ds ps→ds.length=ts.length
 | [],[],[],_,_=>rfl
 | t::ts,v::vs,d::ds,ps,h=>by
  obtain⟨p,q,h1,h2,rfl⟩:=h;rw[List.length_cons,List.length_cons,bDr ts vs ds q h2]
 | [],_::_,_,_,h=>h.elim
 | [],[],_::_,_,h=>h.elim
 | _::_,[],_,_,h=>h.elim
 | _::_,_::_,[],_,h=>h.elim
theorem bE9{f:Func}{s:ChangeSpec}{W W':World}{args:Array Value}{ds gs:List (DataW H)}{before:List MemPlace}{tb:TypeId}(hl:laidOutB P=true)(hub:P.underlying tb=some .bool)
  (hW:DataW.Whole enc P f.params.toList s.vars false W args.toList ds gs before) (hvars:s.vars=[]) (hrt:f.resultTypes=#[tb])
  (hsp:∀es:List (DataW H),es.length=f.params.size→s.fn H es = { results:=[.lit (.bool true)],args:=es })
  (hread:∀t∈f.params.toList,P.readableRec t=true∧t<P.types.size) (hb:Below W.heap.size W W'):s.post enc P f false true false false W args (.bool true) W':=by
 have hW':=hW;obtain⟨p,q,hA,hV,hbe,hfz,hnd⟩:=hW;rw[hvars]at hV;obtain⟨rfl,rfl⟩:=trodVars_none hV;have hlen:=bDr _ _ _ _ hA;have hfn:=hsp ds (by rw[hlen];simp);have hlt:∀x∈p,x.block<W.heap.size:=fun x hx=>hW'.lt x (by rw[hbe];simp[hx]);refine bEn (pa:=p) (pv:=[]) hW' (fun _ _ _=>?_) (fun sp hs=>?_) (fun _ _=>?_) (by simpa using hbe) hb ?_
 ·rw[List.append_nil,hfn,hrt];exact trodAll_mk1 (shut_bool hub true)
 ·rw[List.append_nil,hfn];exact bDs hl _ _ _ _ hread hA (fun x hx=>hb.same (hlt x hx)) (fun x hx=>hs x (by rw[hbe];simp[hx]))
 ·rw[List.append_nil,hfn,hvars];rfl
 ·exact ok_one hrt rfl (okWide_bool_mk hub true)
theorem bDa{k:IntKind}{n:Int}(h:(Lit.int k n).wf=true):aP k n:=by cases k<;>simp[Lit.wf,IntKind.min,IntKind.max,IntKind.signed,IntKind.bits]at h<;>simp only[aP]<;>omega
theorem aPy{r:Reach}{b0:Nat}{t:TypeId}{k:IntKind}{v:Value}{d:DataW H}{ps:List MemPlace}(ht:P.underlying t=some (.int k))(hval:Value.okWide P w r b0 t v)(hd:DataW.Trod enc P w base spare held t v d ps):∃n,v=.int k n∧aP k n:=by obtain⟨n,h1,-,-,h4⟩:=open_int ht hval hd;exact⟨n,h1,bDa h4⟩
theorem bE8{r:Reach}{b0:Nat}{t e:TypeId}{k:IntKind}{v:Value}{d:DataW H}{ps:List MemPlace}(ht:P.underlying t=some (.slice e))(he:P.underlying e=some (.int k))(hC:P.cellsOf e=1)(hv:Value.okWide P w r b0 t v)(h:DataW.Trod enc P w 0 (fun _=>true) true t v d ps):
  ∃(A:Option Addr) (c:Nat) (xs:List Int),v=.slice A xs.length c∧bF w (aV []) A xs.length c 1 (aC k xs)∧∀x∈xs,aP k x:=by
 obtain⟨a0,len,cap,rfl⟩:=okWide_slice ht hv;obtain⟨fuel,hf⟩:=h;have hf':DataW.trod enc P w 0 (fun _=>true) true fuel t [.slice a0 len cap]=some (d,ps):=by simpa [Value.cells] using hf
 rcases open_ints ht he hC hf' with⟨hcs,-⟩ | ⟨a,len',cap',zs,hcs,-,hl,hm,hmm,-,hcell,hwf⟩
 ·simp at hcs;obtain⟨rfl,rfl,rfl⟩:=hcs;exact⟨none,0,[],rfl,⟨Ro.nil _ _ _⟩,aE⟩
 ·simp at hcs hmm;obtain⟨rfl,rfl,rfl⟩:=hcs;have hlen:(zs.take len).length=len:=by rw[List.length_take];omega
  refine⟨some a,cap,zs.take len,by rw[hlen],⟨some a,cap,rfl,oo,hm,aE,fun hpos=>?_⟩,fun x hx=>bDa (hwf x (List.mem_of_mem_take hx))⟩;rw[hlen]at hpos;have hc0:=hcell 0 oo;obtain⟨b,off,spot⟩:=a;have hspot:spot=none:=by simpa [Addr.add] using World.cell?_spot hc0
  subst hspot;have hblt:b<w.heap.size:=by
   rcases Nat.lt_or_ge b w.heap.size with hlt|hge
   ·exact hlt
   ·rw[pJ]at hc0;simp[World.cell?,Array.getElem?_eq_none hge]at hc0
  refine⟨b,off,rfl,hblt,(by rintro⟨x,hx,_⟩;cases hx),fun j u hu=>?_⟩;have hj:j<len:=by have:=(List.getElem?_eq_some_iff.1 hu).1;simpa [hlen] using this
  have:=hcell j oo;rw[pJ]at this;rw[this];simp only[aC,List.getElem?_map,List.getElem?_take,if_pos hj]at hu;rw[List.getElem?_eq_getElem oo]at hu;simp at hu;rw[← hu,List.getD_eq_getElem?_getD,List.getElem?_eq_getElem oo];rfl
end
theorem bEh:laidOutB prog=true:=by kernel_rfl
section
variable {H:Type} {enc:TypeId×Value→H} {P:Program} {w:World} {base:Nat} {spare:Nat→Bool} {held:Bool}
theorem bF0{t0 t1 t2 t3 t4 t5 t6 t7:TypeId}{args:Array Value}{ds:List (DataW H)}{ps:List MemPlace}(h:DataW.TrodAll enc P w base spare held [t0,t1,t2,t3,t4,t5,t6,t7] args.toList ds ps):
  ∃v0 v1 v2 v3 v4 v5 v6 v7 d0 d1 d2 d3 d4 d5 d6 d7 p0 p1 p2 p3 p4 p5 p6 p7,args=#[v0,v1,v2,v3,v4,v5,v6,v7]∧ds=[d0,d1,d2,d3,d4,d5,d6,d7]∧ps=p0++p1++p2++p3++p4++p5++p6++p7∧DataW.Trod enc P w base spare held t0 v0 d0 p0∧DataW.Trod enc P w base spare held t1 v1 d1 p1∧DataW.Trod enc P w base spare held t2 v2 d2 p2∧DataW.Trod enc P w base spare held t3 v3 d3 p3∧DataW.Trod enc P w base spare held t4 v4 d4 p4∧DataW.Trod enc P w base spare held t5 v5 d5 p5∧DataW.Trod enc P w base spare held t6 v6 d6 p6∧DataW.Trod enc P w base spare held t7 v7 d7 p7:=by
 obtain⟨v0,vs0,d0,ds0,p0,q0,hargs,rfl,rfl,k0,h0⟩:=trodAll_cons h;obtain⟨v1,vs1,d1,ds1,p1,q1,rfl,rfl,rfl,k1,h1⟩:=trodAll_cons h0;obtain⟨v2,vs2,d2,ds2,p2,q2,rfl,rfl,rfl,k2,h2⟩:=trodAll_cons h1;obtain⟨v3,vs3,d3,ds3,p3,q3,rfl,rfl,rfl,k3,h3⟩:=trodAll_cons h2;obtain⟨v4,vs4,d4,ds4,p4,q4,rfl,rfl,rfl,k4,h4⟩:=trodAll_cons h3;obtain⟨v5,vs5,d5,ds5,p5,q5,rfl,rfl,rfl,k5,h5⟩:=trodAll_cons h4;obtain⟨v6,vs6,d6,ds6,p6,q6,rfl,rfl,rfl,k6,h6⟩:=trodAll_cons h5;obtain⟨v7,vs7,d7,ds7,p7,q7,rfl,rfl,rfl,k7,h7⟩:=trodAll_cons h6;obtain⟨rfl,rfl,rfl⟩:=trodAll_nil h7;exact⟨v0,v1,v2,v3,v4,v5,v6,v7,d0,d1,d2,d3,d4,d5,d6,d7,p0,p1,p2,p3,p4,p5,p6,p7,by cases args;simp_all,rfl,aE,k0,k1,k2,k3,k4,k5,k6,k7⟩
theorem uW.app:∀{ks ls:List IntKind} {cs ds:List Value},uW ks cs→uW ls ds→uW (ks++ls) (cs++ds)
 | [],_,_,_,h,g=>by rw[show _=[]from h];simpa using g
 | k::ks,_,_,_,⟨n,r,e,hn,h⟩,g=>⟨n,r++_,by rw[e];rfl,hn,h.app g⟩
structure aBr(P:Program)(t:TypeId)(ks:List IntKind):Prop where
 len:P.cellsOf t=ks.length
 h:∀{H:Type} {enc:TypeId×Value→H} {w:World} {base:Nat} {spare:Nat→Bool} {held:Bool} {fuel:Nat} {cs:List Value} {x:DataW H×List MemPlace},DataW.trod enc P w base spare held fuel t cs=some x→uW ks cs
theorem aW1{t:TypeId}{k:IntKind}(ht:P.underlying t=some (.int k))(hc:P.cellsOf t=1):aBr P t [k]:=⟨hc,fun h=>by obtain⟨n,rfl,-,hwf⟩:=DataW.trod_int ht h;exact⟨n,[],rfl,bDa hwf,rfl⟩⟩
def aUv(P:Program):List Field→Nat→List (List IntKind)→Prop
 | [],_,kss=>kss=[]
 | f::fs,off,kss=>∃ks r,kss=ks::r∧f.offset=off∧aBr P f.type ks∧aUv P fs (off+ks.length) r
theorem bDd{cs:List Value}: ∀(fs:List Field) (off:Nat) (kss:List (List IntKind)),aUv P fs off kss→off+kss.flatten.length≤cs.length →
  (∀f∈fs,∃(n:Nat) (x:DataW H×List MemPlace),DataW.trod enc P w base spare held n f.type ((cs.drop f.offset).take (P.cellsOf f.type))=some x)→uW kss.flatten ((cs.drop off).take kss.flatten.length)
 | [],off,kss,h,_,_=>by rw[show kss=[]from h];simp[uW]
 | f::fs,off,_,⟨ks,r,rfl,ho,hk,hr⟩,hl,hf=>by
  obtain⟨n,x,hx⟩:=hf f (List.mem_cons_self ..);have h1:=hk.h hx;rw[ho,hk.len]at h1;rw[List.flatten_cons,List.length_append]at hl ⊢;have h2:=bDd fs (off+ks.length) r hr oo (fun g hg=>hf g (List.mem_cons_of_mem _ hg));have e:(cs.drop off).take (ks.length+r.flatten.length)=(cs.drop off).take ks.length++(cs.drop (off+ks.length)).take r.flatten.length:=by rw[List.take_add,List.drop_drop]
  rw[e];exact h1.app h2
theorem aIs{t:TypeId}{fs:Array Field}(kss:List (List IntKind))(ht:P.underlying t=some (.struct fs))(hf:aUv P fs.toList 0 kss)(hc:P.cellsOf t=kss.flatten.length):aBr P t kss.flatten:=⟨hc,fun {H enc w base spare held fuel cs x} h=>by
 obtain⟨xs,n,-,-,hl,hxl,hat⟩:=DataW.trod_struct ht h;have:=bDd (enc:=enc) (w:=w) (base:=base) (spare:=spare) (held:=held) (cs:=cs) fs.toList 0 kss hf oo (fun f hf=>by
  obtain⟨i,hi,rfl⟩:=List.getElem_of_mem hf;have hi':i<fs.size:=by simpa using hi
  have h1:=hat i fs[i] (Array.getElem?_eq_getElem hi');rw[List.getElem?_eq_getElem (by omega:i<xs.length)]at h1;exact⟨n,_,by simpa using h1⟩)
 rw[List.drop_zero,List.take_of_length_le oo]at this;exact this⟩
theorem bDe{r:Reach}{b0:Nat}{t:TypeId}{fs:Array Field}{ks:List IntKind}{v:Value}{d:DataW H}{ps:List MemPlace}(ht:P.underlying t=some (.struct fs))(hk:aBr P t ks)(hv:Value.okWide P w r b0 t v)(h:DataW.Trod enc P w base spare held t v d ps):
  ∃cs:List Value,v=.agg cs.toArray∧uW ks cs:=by
 obtain⟨cs,rfl,hsz⟩:=okWide_struct ht hv;obtain⟨fuel,hf⟩:=h;exact⟨cs.toList,aE,hk.h hf⟩
theorem bEj{α:Type}{Q:Nat→α→Prop}{n:Nat}(h:∀i,i<n→∃f,Q i f):∃l:List α,l.length=n∧∀i f,l[i]? = some f→Q i f:=by
 induction n with
 | zero=>exact⟨[],rfl,aE⟩
 | succ n ih =>
  obtain⟨l,hl,hp⟩:=ih (fun i hi=>h i oo);obtain⟨f,hf⟩:=h n oo;refine⟨l++[f],by simp[hl],fun i g hg=>?_⟩;by_cases hi:i<l.length
  ·rw[List.getElem?_append_left hi]at hg;exact hp i g hg
  ·have hb:i<(l++[f]).length:=(List.getElem?_eq_some_iff.1 hg).1;have:i=l.length:=by simp at hb;omega
   subst this;simp at hg;subst hg;rw[hl];exact hf
theorem bEa{α:Type}[Inhabited α]{en:α→List Value}{s:Nat}[hR:pX en s]{ok:α→Prop}{r:Reach}{b0:Nat}{t e:TypeId}{ks:List IntKind}{v:Value}{d:DataW H}{ps:List MemPlace}(ht:P.underlying t=some (.slice e))(hk:aBr P e ks)(hs:ks.length=s)
  (hun:∀cs,uW ks cs→∃a,ok a∧en a=cs) (hv:Value.okWide P w r b0 t v) (h:DataW.Trod enc P w 0 (fun _=>true) true t v d ps) :
  ∃(A:Option Addr) (c:Nat) (l:List α),v=.slice A l.length c∧bF w (aV []) A l.length c s (aR en l)∧∀x∈l,ok x:=by
 obtain⟨a0,len,cap,rfl⟩:=okWide_slice ht hv;obtain⟨fuel,hf⟩:=h;have hf':DataW.trod enc P w 0 (fun _=>true) true fuel t [.slice a0 len cap]=some (d,ps):=by simpa [Value.cells] using hf
 rcases open_slice ht hf' with⟨hcs,-⟩ | ⟨a,len',cap',m,n,D,Pl,hcs,hb,hl,hm,hmm,hx,hi⟩
 ·simp at hcs;obtain⟨rfl,rfl,rfl⟩:=hcs;exact⟨none,0,[],rfl,⟨Ro.nil _ _ _⟩,aE⟩
 ·simp at hcs hmm;obtain⟨rfl,rfl,rfl⟩:=hcs;subst hmm;have hel:∀i,i<len→∃f:α,ok f∧∀k u,(en f)[k]? = some u→w.cell? (a.add (i*s+k))=some u:=by
   intro i hil;obtain⟨cs',hc,ht'⟩:=hi i oo;obtain⟨f,hok,he⟩:=hun cs' (hk.h ht');obtain⟨-,hcl,hat⟩:=World.cells?_some hc;rw[hk.len,hs]at hcl hat
   refine⟨f,hok,fun k u hu=>?_⟩;have hks:k<s:=by rw[← hR.h.1 f];exact(List.getElem?_eq_some_iff.1 hu).1
   rw[← Go.Deep.add_add,hat k hks,← he];exact hu
  obtain⟨l,rfl,hp⟩:=bEj hel;refine⟨some a,_,l,rfl,⟨some a,_,rfl,hl,hm,lF l,fun hn=>?_⟩,fun f hf=>?_⟩
  ·obtain⟨f0,hf0⟩:∃f,l[0]? = some f:=⟨l[0],List.getElem?_eq_getElem hn⟩;obtain⟨u0,hu0⟩:∃u,(en f0)[0]? = some u:=⟨(en f0)[0]'(by rw[hR.h.1];exact hR.h.2),List.getElem?_eq_getElem _⟩;have hc0:=(hp 0 f0 hf0).2 0 _ hu0;obtain⟨b,off,spot⟩:=a;have hspot:spot=none:=by simpa [Addr.add] using World.cell?_spot hc0
   subst hspot;have hblt:b<w.heap.size:=by
    rcases Nat.lt_or_ge b w.heap.size with hlt|hge
    ·exact hlt
    ·rw[pJ]at hc0;simp[World.cell?,Array.getElem?_eq_none hge]at hc0
   refine⟨b,off,rfl,hblt,(by rintro⟨x,hx,_⟩;cases hx),fun j u hu=>?_⟩;have hjl:j<l.length*s:=by rw[← lF (e:=en) l];exact(List.getElem?_eq_some_iff.1 hu).1
   have hpos:=hR.h.2;have hi2:j/s<l.length:=Nat.div_lt_of_lt_mul (by rw[Nat.mul_comm];exact hjl);have hj:j/s*s+j%s=j:=by rw[Nat.mul_comm];exact Nat.div_add_mod j s
   have h1:=aD5 (e:=en) l (j/s) (j%s) hi2 (Nat.mod_lt _ hpos);rw[hj,hu]at h1;have hge:l[j/s]? = some (l.getD (j/s) default):=by rw[List.getD_eq_getElem?_getD,List.getElem?_eq_getElem hi2];rfl
   have:=(hp _ _ hge).2 _ u h1.symm;rw[hj,pJ]at this;exact this
  ·obtain⟨i,hi',rfl⟩:=List.getElem_of_mem hf;exact(hp i _ (List.getElem?_eq_getElem hi')).1
end
theorem aA6:aBr prog 2 [.i64]:=aW1 underlying2 (by kernel_rfl)
theorem aFr:aBr prog 3 [.i64]:=aW1 underlying3 (by kernel_rfl)
theorem bDc:aBr prog 46 [.u32]:=aW1 underlying46 (by kernel_rfl)
theorem bE6:aBr prog 44 [.i64,.i64]:=aIs [[.i64],[.i64]] underlying44 ⟨_,_,rfl,rfl,aA6,_,_,rfl,rfl,aA6,rfl⟩ (by kernel_rfl)
theorem bE5:aBr prog 48 [.u32,.i64,.i64,.i64]:=aIs [[.u32],[.i64],[.i64],[.i64]] underlying48 ⟨_,_,rfl,rfl,bDc,_,_,rfl,rfl,aA6,_,_,rfl,rfl,aFr,_,_,rfl,rfl,aA6,rfl⟩ (by kernel_rfl)
end Go.Proofs.YtpmkboockihdbaaGreat
namespace Go.Proofs.YtpmkboockihdbaaGreat
open Go.RowKit _root_.Go.Proofs.Tryz
def Ln.core(s:Ln):Ln:={ s with c0:=0,c1:=0,c2:=0,c3:=0,c4:=0,c5:=0,c6:=0 }
theorem aA8(s:Ln)(k:Int):(s.note k).core=s.core:=by
 unfold Ln.note;repeat' split
 all_goals rfl
theorem bEt{s t:Ln}(h:s.core=t.core)(time a:Int):(s.radar time a).2=(t.radar time a).2∧(s.radar time a).1.core=(t.radar time a).1.core:=by
 obtain⟨age,jump,throw,most,any,seq,tm,high,since,has,last,based,threw,c0,c1,c2,c3,c4,c5,c6⟩:=s;obtain⟨age',jump',throw',most',any',seq',tm',high',since',has',last',based',threw',d0,d1,d2,d3,d4,d5,d6⟩:=t;simp only[Ln.core,Ln.mk.injEq]at h;obtain⟨rfl,rfl,rfl,rfl,rfl,rfl,rfl,rfl,rfl,rfl,rfl,rfl,rfl,-⟩:=h;unfold Ln.radar;simp only;by_cases h1:a<0∨most<a
 ·simp only[if_pos h1,aA8];exact⟨trivial,rfl⟩
 simp only[if_neg h1];by_cases h2:has=false∨age<(time-since)%4294967296
 ·simp only[if_pos h2,aA8];exact⟨trivial,rfl⟩
 simp only[if_neg h2];by_cases h3:based=true∧(jump<high-a-last∨high-a-last < -jump)
 ·simp only[if_pos h3];by_cases h4:threw<throw
  ·simp only[if_pos h4,aA8];exact⟨trivial,rfl⟩
  ·simp only[if_neg h4,aA8];exact⟨trivial,rfl⟩
 ·simp only[if_neg h3,aA8];exact⟨trivial,rfl⟩
theorem bDn{s t:Ln}(h:s.core=t.core)(seq time:Int):s.late seq time=t.late seq time∧(s.order seq time).core=(t.order seq time).core:=by
 obtain⟨age,jump,throw,most,any,sq,tm,high,since,has,last,based,threw,c0,c1,c2,c3,c4,c5,c6⟩:=s;obtain⟨age',jump',throw',most',any',sq',tm',high',since',has',last',based',threw',d0,d1,d2,d3,d4,d5,d6⟩:=t;simp only[Ln.core,Ln.mk.injEq]at h;obtain⟨rfl,rfl,rfl,rfl,rfl,rfl,rfl,rfl,rfl,rfl,rfl,rfl,rfl,-⟩:=h;refine⟨rfl,?_⟩;unfold Ln.order;by_cases h1:Ln.late ⟨age,jump,throw,most,any,sq,tm,high,since,has,last,based,threw,c0,c1,c2,c3,c4,c5,c6⟩ seq time=true
 ·have h2:Ln.late ⟨age,jump,throw,most,any,sq,tm,high,since,has,last,based,threw,d0,d1,d2,d3,d4,d5,d6⟩ seq time=true:=h1;rw[if_pos h1,if_pos h2];rfl
 ·have h2:¬Ln.late ⟨age,jump,throw,most,any,sq,tm,high,since,has,last,based,threw,d0,d1,d2,d3,d4,d5,d6⟩ seq time=true:=h1;rw[if_neg h1,if_neg h2];rfl
theorem bE7{s t:Ln}(h:s.core=t.core)(a time:Int):({ s with high:=a,since:=time,has:=true }:Ln).core=({ t with high:=a,since:=time,has:=true }:Ln).core:=by obtain⟨age,jump,throw,most,any,sq,tm,high,since,has,last,based,threw,c0,c1,c2,c3,c4,c5,c6⟩:=s;obtain⟨age',jump',throw',most',any',sq',tm',high',since',has',last',based',threw',d0,d1,d2,d3,d4,d5,d6⟩:=t;simp only[Ln.core,Ln.mk.injEq]at h;obtain⟨rfl,rfl,rfl,rfl,rfl,rfl,rfl,rfl,rfl,rfl,rfl,rfl,rfl,-⟩:=h;rfl
theorem bEz{s t:Ln}(h:s.core=t.core)(kind seq time a:Int):(s.take kind seq time a).2=(t.take kind seq time a).2∧(s.take kind seq time a).1.core=(t.take kind seq time a).1.core:=by
 obtain⟨hl,ho⟩:=bDn h seq time;unfold Ln.take;by_cases h1:kind<1∨5<kind
 ·simp only[if_pos h1,aA8];exact⟨trivial,h⟩
 simp only[if_neg h1,hl];by_cases h2:t.late seq time=true
 ·simp only[if_pos h2,aA8];exact⟨trivial,h⟩
 simp only[if_neg h2];by_cases h3:kind=3
 ·simp only[if_pos h3,aA8];exact⟨trivial,bE7 ho a time⟩
 simp only[if_neg h3];by_cases h4:kind=2
 ·simp only[if_pos h4];exact bEt ho time a
 ·simp only[if_neg h4,aA8];exact⟨trivial,ho⟩
theorem bEi(s:Ln)(seq time:Int)(h1:s.any=true)(h2:s.seq=seq):s.late seq time=true:=by unfold Ln.late xI;rw[h1,h2];simp
theorem aW2{s t:Ln}(h:s.core=t.core):s.any=t.any∧s.seq=t.seq:=by
 have e1:s.core.any=t.core.any:=by rw[h]
 have e2:s.core.seq=t.core.seq:=by rw[h]
 exact⟨e1,e2⟩
theorem bEs(s:Ln)(time a:Int):(s.radar time a).1.any=s.any∧(s.radar time a).1.seq=s.seq:=by
 have hn:∀(u:Ln) (k:Int),(u.note k).any=u.any∧(u.note k).seq=u.seq:=fun u k=>aW2 (aA8 u k);unfold Ln.radar;repeat' split
 all_goals exact hn _ _
theorem bEy(s:Ln)(kind seq time a:Int):
  ((s.take kind seq time a).1.take kind seq time a).2.2.2=false∧(((s.take kind seq time a).1.take kind seq time a).2.1=if kind<1∨5<kind then 2 else 1) ∧
   ((s.take kind seq time a).1.take kind seq time a).1.core=(s.take kind seq time a).1.core:=by
 by_cases h1:kind<1∨5<kind
 ·have e:∀u:Ln,u.take kind seq time a=(u.note 2,2,0,false):=fun u=>by unfold Ln.take;rw[if_pos h1]
  rw[e,e];simp only[if_pos h1,aA8];exact⟨trivial,trivial,trivial⟩
 have e:∀u:Ln,u.late seq time=true→u.take kind seq time a=(u.note 1,1,0,false):=fun u hu=>by unfold Ln.take;rw[if_neg h1,if_pos hu]
 have hl:(s.take kind seq time a).1.late seq time=true:=by
  rcases Bool.eq_false_or_eq_true (s.late seq time) with hu|hu
  ·rw[e s hu];exact((bDn (aA8 s 1) seq time).1).trans hu
  ·have ho:(s.order seq time).any=true∧(s.order seq time).seq=seq:=by unfold Ln.order;rw[if_neg (by simp[hu])];exact⟨rfl,rfl⟩
   apply bEi;all_goals
    unfold Ln.take;rw[if_neg h1,if_neg (by simp[hu])];by_cases h3:kind=3
    ·rw[if_pos h3];have:=aW2 (aA8 ({ s.order seq time with high:=a,since:=time,has:=true }:Ln) 0);first|exact this.1.trans ho.1|exact this.2.trans ho.2
    rw[if_neg h3];by_cases h4:kind=2
    ·rw[if_pos h4];have:=bEs (s.order seq time) time a;first|exact this.1.trans ho.1|exact this.2.trans ho.2
    ·rw[if_neg h4];have:=aW2 (aA8 (s.order seq time) 6);first|exact this.1.trans ho.1|exact this.2.trans ho.2
 rw[e _ hl];simp only[if_neg h1,aA8];exact⟨trivial,trivial,trivial⟩
@[reducible] def bX(s:aL)(l:Ln)(q:Int):aL:={ s with ln:=l,seq:=q }
section
variable {W H:Nat} {f:List Int}
theorem bDj(l:Ln)(q:Int):∀(k:Nat) (s:aL),dY k (bX s l q)=bX (dY k s) l q
 | 0,_=>rfl
 | k+1,s=>by
  rw[dY,dY];dsimp only;split
  ·rfl
  ·let c:=bB s.g;let raw:=bS s.g c;let g':=cC raw;let n:Int:=g'.w*g'.h;exact bDj l q k { s with g:=g',bk:=(if c.kind=1 then dO s.bk s.bk.b (2*cT n)else if c.kind=2 then dO s.bk s.bk.b (cT n)else dO s.bk (jD s.bk.b 1 (aM s.g.p s.g.p.length) (aM raw.p raw.p.length)) (cT n)),deeds:=s.deeds++[⟨4,cE,0,0,0,[],c⟩] }
theorem bF8(s:aL)(l:Ln)(q z:Int):gV W H f (bX s l q) z=(bX (gV W H f s z).1 l q,(gV W H f s z).2):=by
 unfold gV;show (match oK W H f s.g s.cf.noi z with|none=>_|some l=>_)=_;cases oK W H f s.g s.cf.noi z with
 | none=>rfl
 | some v =>
  dsimp only;rw[← bDj]
theorem bEk(s:aL)(l:Ln)(q:Int):oB W H f (bX s l q)=(bX (oB W H f s).1 l q,(oB W H f s).2):=by unfold oB;dsimp only;split<;>rfl
theorem bEe(s:aL)(l:Ln)(q z:Int):lH W H f (bX s l q) z=(bX (lH W H f s z).1 l q,(lH W H f s z).2):=by
 unfold lH;split
 ·dsimp only;split
  ·exact bEk { s with p:=kX s.p z } l q
  ·rfl
 ·split
  ·dsimp only;rw[bF8];rfl
  ·rfl
theorem bEl(s:aL)(l:Ln)(q dx dy:Int):kU (bX s l q) dx dy=(bX (kU s dx dy).1 l q,(kU s dx dy).2):=by
 unfold kU;dsimp only;split
 ·rfl
 ·repeat' split
  all_goals rfl
def TwR(s t:aL):Prop:=s.ln.core=t.ln.core∧∃q,t=bX s t.ln q
theorem bEw(s:aL)(l:Ln)(q:Int)(i:kK)(say:Bool):∃q',(jE (bX s l q) i say).1=bX (jE s i say).1 l q':=by
 unfold jE;dsimp only;split
 ·refine⟨(q+1)%65536,?_⟩;repeat' split
  all_goals rfl
 ·refine⟨q,?_⟩;repeat' split
  all_goals rfl
theorem bD6(s:aL)(i:kK)(say:Bool):(jE s i say).1.ln=s.ln:=by
 unfold jE;dsimp only;repeat' split
 all_goals rfl
theorem bDi:∀(k:Nat) (s:aL),(dY k s).ln=s.ln
 | 0,_=>rfl
 | k+1,s=>by
  rw[dY];dsimp only;split
  ·rfl
  ·exact bDi k _
theorem bDg(s:aL)(z:Int):(lH W H f s z).1.ln=s.ln:=by
 unfold lH;split
 ·dsimp only;split
  ·unfold oB;dsimp only;split<;>rfl
  ·rfl
 ·split
  ·dsimp only;unfold gV;split
   ·rfl
   ·exact bDi 4 _
  ·rfl
theorem bDm(s:aL)(dx dy:Int):(kU s dx dy).1.ln=s.ln:=by
 unfold kU;dsimp only;repeat' split
 all_goals rfl
theorem bDq{s t:aL}(h:TwR s t)(x:jH):TwR (jW W H f s x).1 (jW W H f t x).1:=by
 obtain⟨hc,q,ht⟩:=h;obtain⟨hl1,hl2⟩:=bEz hc x.kind x.seq x.time x.a;generalize t.ln=tl at *;subst ht;unfold jW;by_cases hm:s.mode=4
 ·rw[if_pos hm,if_pos (show (bX s tl q).mode=4 from hm)];exact⟨hc,_,rfl⟩
 ·rw[if_neg hm,if_neg (show ¬(bX s tl q).mode=4 from hm)];dsimp only;generalize s.ln.take x.kind x.seq x.time x.a=u at *;generalize tl.take x.kind x.seq x.time x.a=v at *;obtain⟨ul,ur⟩:=u;obtain⟨vl,vr⟩:=v;dsimp only at hl1 hl2 ⊢;subst hl1;have key:∀(o:aL) (i:kK) (say:Bool),o.ln=ul→TwR (jE { o with time:=x.time } i say).1 (jE { (bX o vl q) with time:=x.time } i say).1:=by intro o i say ho;obtain⟨q',e⟩:=bEw { o with time:=x.time } vl q i say;have e2:(jE { (bX o vl q) with time:=x.time } i say).1=bX (jE { o with time:=x.time } i say).1 vl q':=e;rw[e2];refine⟨?_,q',rfl⟩;rw[bD6];show o.ln.core=vl.core;rw[ho];exact hl2
  split
  ·have e:=bEe (W:=W) (H:=H) (f:=f) { s with ln:=ul } vl q ur.2.1;have e2:lH W H f { (bX s tl q) with ln:=vl } ur.2.1=(bX (lH W H f { s with ln:=ul } ur.2.1).1 vl q,(lH W H f { s with ln:=ul } ur.2.1).2):=e;rw[e2];exact key _ _ _ (bDg _ _)
  split
  ·exact⟨hl2,q,rfl⟩
  ·split
   ·have e2:kU { (bX s tl q) with ln:=vl } x.a x.b=(bX (kU { s with ln:=ul } x.a x.b).1 vl q,(kU { s with ln:=ul } x.a x.b).2):=bEl { s with ln:=ul } vl q x.a x.b;rw[e2];exact key _ _ _ (bDm _ _ _)
   split
   ·exact key { s with ln:=ul } _ _ rfl
   ·exact key { s with ln:=ul } _ _ rfl
theorem TwR.trans{s t u:aL}(h:TwR s t)(k:TwR t u):TwR s u:=by obtain⟨h1,q,h2⟩:=h;obtain⟨k1,r,k2⟩:=k;refine⟨h1.trans k1,r,?_⟩;rw[k2,h2]
theorem bEx{s:aL}(x:jH)(hm:s.mode≠4):(jW W H f s x).1.ln=(s.ln.take x.kind x.seq x.time x.a).1:=by
 unfold jW;rw[if_neg hm];dsimp only;generalize s.ln.take x.kind x.seq x.time x.a=u;split
 ·rw[bD6];exact bDg _ _
 split
 ·rfl
 ·rw[bD6];split
  ·exact bDm _ _ _
  split
  ·rfl
  ·rfl
theorem bDp(s:aL)(x:jH):TwR (jW W H f s x).1 (jW W H f (jW W H f s x).1 x).1:=by
 by_cases h4:(jW W H f s x).1.mode=4
 ·have e:jW W H f (jW W H f s x).1 x=cP (jW W H f s x).1:=if_pos h4;rw[e];exact⟨rfl,_,rfl⟩
 ·have hm:s.mode≠4:=by intro hm;have e:jW W H f s x=cP s:=if_pos hm;rw[e]at h4;exact h4 hm
  obtain⟨a1,a2,a3⟩:=bEy s.ln x.kind x.seq x.time x.a;rw[← bEx (W:=W) (H:=H) (f:=f) x hm]at a1 a2 a3;generalize (jW W H f s x).1=t at *;have e:jW W H f t x=({ t with ln:=(t.ln.take x.kind x.seq x.time x.a).1 },[]):=by unfold jW;rw[if_neg h4];dsimp only;rw[a1,if_neg od,if_pos (by rw[a2];split<;>decide)]
  rw[e];exact⟨a3.symm,t.seq,rfl⟩
end
attribute [local irreducible] OJ J bO Code.wpIn wpListIn Oper.wpIn bodyPost CallsIn aF
theorem bDb(g:Nat)(s:aL)(a:bR)(w:World)(hown:aZ [.blk g 173 (aI s a)] w)(hL:jS s):
  aF prog 50 [.pointer (some ⟨g,0,none⟩)] [.blk g 173 (aI s a)] w (fun v S'=>v=.agg (mL s.bk).toArray∧S'=[.blk g 173 (aI s a)]):=by
 have i1:=gT hL;have i2:=jU hL;refine aJ func50 rfl ntmps50 rfl hown (fun _=>?_);simp only[aG];refine aB;refine eD (S':=[.blk g 173 (aI s a)]) aA.au ?_;refine cY;exact⟨rfl,rfl⟩
end Go.Proofs.YtpmkboockihdbaaGreat
namespace Go.Proofs.YtpmkboockihdbaaGreat
open Go.RowKit _root_.Go.Proofs.Tryz
theorem bEo(t u:TypeId)(x y:Operand)(a b:Int)(ht:t=124):PV prog (.binOp .neq t x y u) [.agg #[.int .i64 a,.int .i64 b],.agg #[.int .i64 a,.int .i64 b]] (.bool false) True:=⟨by
 subst ht;rintro _ ρ ⟨dst,op',ty,pos,aft,gd⟩ rfl h w;obtain⟨h1,h2⟩:=qZ h;have u2:=underlying2;have a2:=Tryz.isAgg2;have z2:=Tryz.sizeOf2;have hS:prog.underlying 124=some (.struct (prog.fieldsOf 124)):=by kernel_rfl
 have hp:prog.stoodInHeld 124=false:=by kernel_rfl
 have hm:prog.eqGuardType prog.depth 124=false:=by kernel_rfl
 simp only[execOp,h1,h2,Sem.run_bind,run_eqGuard_agg w _ _ _ _ _ _ hm,Result.andThen_ok];rw[run_neq_struct,show (10000:Nat)=9999+1 from rfl,run_equalIn_agg w 9999 124 _ _ hS hp];simp only[Program.fieldsOf,underlying124]
 go_simp⟩
instance (priority:=2000) {w0:World}{W:Nat→Prop}{H:List HE}(u:TypeId)(x y:Operand)(a b:Int):MS prog w0 W H (.binOp .neq 124 x y u) [.agg #[.int .i64 a,.int .i64 b],.agg #[.int .i64 a,.int .i64 b]] (.bool false) True:=aQ6 (bEo _ u x y a b rfl)
theorem aPw{v:Wv}{b k x y:Int}(h:v.ok b)(hk:aP .i64 k)(hx:aP .i32 x)(hy:aP .i32 y):(eH v k x y).ok:=⟨hk,by show (0:Int)≤(v.told+1)%65536∧(v.told+1)%65536≤(65535:Int);omega,by have:=h.time;show (0:Int)≤v.time∧v.time≤(4294967295:Int);omega,hx,hy,(show aP .i32 0 by decide)⟩
theorem bEb{W H:Nat}{f:List Int}{v:Wv}{b dx dy up ms:Int}(h:v.ok b):∀p∈(eE W H f v dx dy up ms).2.1,p.ok:=by
 unfold eE;split
 ·rename_i hc;have hv:=bBb h hc;show ∀p∈goL _ _ _,p.ok;generalize goV v dx dy up ms=u at *;generalize lI W H f (v.x+dx) (v.y+dy)=z;generalize eN W H f (v.x+dx) (v.y+dy)=e;have i32:∀q:Int,-2147483648≤q∧q≤2147483647→aP .i32 q:=fun q hq=>hq;obtain⟨v1,v2,v3,v4,v5,v6,v7,v8⟩:=hv;have hv:u.ok b:=⟨v1,v2,v3,v4,v5,v6,v7,v8⟩;have q1:(eH u 1 u.dx u.dy).ok:=aPw hv od (i32 _ oo) (i32 _ oo);have hv2:({ u with told:=u.told+1 }:Wv).ok (b+1):=⟨v1,v2,v3,v4,v5,v6,v7,by show 0≤u.told+1∧u.told+1≤b+1;omega⟩;have hv3:({ u with told:=u.told+2 }:Wv).ok (b+2):=⟨v1,v2,v3,v4,v5,v6,v7,by show 0≤u.told+2∧u.told+2≤b+2;omega⟩;have q2:(eH { u with told:=u.told+1 } 3 (u.high+u.off) 0).ok:=aPw hv2 od (i32 _ oo) (i32 _ oo);unfold goL;split
  ·rename_i hr;have hr:=of_decide_eq_true hr;have q3:(eH { u with told:=u.told+2 } 2 (u.high-z) 0).ok:=aPw hv3 od (i32 _ oo) (i32 _ oo);intro p hp;simp only[List.mem_cons,List.not_mem_nil,or_false]at hp;rcases hp with rfl|rfl|rfl
   ·exact q1
   ·exact q2
   ·exact q3
  ·intro p hp;simp only[List.mem_cons,List.not_mem_nil,or_false]at hp;rcases hp with rfl|rfl
   ·exact q1
   ·exact q2
 ·intro p hp;cases hp
attribute [local irreducible] OJ J bO Code.wpIn wpListIn Oper.wpIn bodyPost CallsIn aF
theorem bEu(g h k j:Nat)(s:aL)(l:Ln)(q:Int)(a b:bR)(w:World)(hown:aZ [.blk g 173 (aI s a),.blk h 173 (aI (bX s l q) b)] w)(hN:cX s k)(hM:cX (bX s l q) j)(hk:k≤100000000∧j≤100000000)
  (hr1:bF w (aV [.blk g 173 (aI s a),.blk h 173 (aI (bX s l q) b)]) a.Ag s.g.p.length a.cg 1 (aC .i64 s.g.p)) (hr2:bF w (aV [.blk g 173 (aI s a),.blk h 173 (aI (bX s l q) b)]) b.Ag s.g.p.length b.cg 1 (aC .i64 s.g.p)) :
  aF prog 48 [.pointer (some ⟨g,0,none⟩),.pointer (some ⟨h,0,none⟩)] [.blk g 173 (aI s a),.blk h 173 (aI (bX s l q) b)] w (fun v S'=>v=.bool true∧S'=[.blk g 173 (aI s a),.blk h 173 (aI (bX s l q) b)]):=by
 have hL:=hN.nvl;have hL2:=hM.nvl;have hgl:s.g.p.length<100000000∨fM s.mode=false:=by
  cases hh:fM s.mode
  ·exact .inr rfl
  ·have:=(hN.g hh).1.len;exact .inl oo
 have F1:=fun w ho hr=>aKs g k s a w ho hN hk.1 hr;have F2:=fun w ho hr=>aKs h j (bX s l q) b w ho hM hk.2 hr;have G1:=fun w ho=>aL4 g s a w ho hL;have G2:=fun w ho=>aL4 h (bX s l q) b w ho hL2;have M1:=fun w ho=>aGp g s a w ho hL;have M2:=fun w ho=>aGp h (bX s l q) b w ho hL2;have I1:=fun w ho=>aV7 g s a w ho hL;have I2:=fun w ho=>aV7 h (bX s l q) b w ho hL2;have B1:=fun w ho=>bDb g s a w ho hL;have B2:=fun w ho=>bDb h (bX s l q) b w ho hL2;rw[show qB (bX s l q)=qB s from rfl]at F2;generalize aI s a=e1 at *;generalize aI (bX s l q) b=e2 at *;generalize qB s=fl at *;obtain⟨cf,ln,p,wt,sat,sums,x,y,md,gg,nx,bk,tries,void,fail,seq,time,deeds,ins,modes⟩:=s;obtain⟨gw,gh,gx,gy,gs,gp⟩:=gg;obtain⟨bb,bn⟩:=bk;dsimp only at *;clear hN hM hL hL2;have iNe:∀w0 W H t u a b (kk:IntKind) (v:Int),MS prog w0 W H (.binOp .neq t a b u) [.int kk v,.int kk v] (.bool false) True:=fun _ _ _ _ _ _ _ _ _=>bM inferInstance trivial (congrArg Value.bool aE);refine aJ func48 rfl ntmps48 rfl hown (fun _=>?_);simp only[aG];refine aB;refine lf rfl rfl rfl (S:=[.blk g 173 e1]) (fun w hw ho=>M1 w ho) ?_;rintro v S' ⟨rfl,rfl⟩;refine aB;refine lf rfl rfl rfl (S:=[.blk h 173 e2]) (fun w hw ho=>M2 w ho) ?_;rintro v S' ⟨rfl,rfl⟩;refine aB;refine lf rfl rfl rfl (S:=[.blk g 173 e1]) (fun w hw ho=>F1 w ho ⟨hr1.h.go hw aD.au⟩) ?_;rintro v S' ⟨rfl,rfl⟩;refine aB;refine lf rfl rfl rfl (S:=[.blk h 173 e2]) (fun w hw ho=>F2 w ho ⟨hr2.h.go hw aD.au⟩) ?_;rintro v S' ⟨rfl,rfl⟩;refine aB;refine lf rfl rfl rfl (S:=[.blk g 173 e1]) (fun w hw ho=>I1 w ho) ?_;rintro v S' ⟨rfl,rfl⟩;refine aB;refine lf rfl rfl rfl (S:=[.blk h 173 e2]) (fun w hw ho=>I2 w ho) ?_;rintro v S' ⟨rfl,rfl⟩;refine aB;refine lf rfl rfl rfl (S:=[.blk g 173 e1]) (fun w hw ho=>B1 w ho) ?_;rintro v S' ⟨rfl,rfl⟩;refine aB;refine lf rfl rfl rfl (S:=[.blk h 173 e2]) (fun w hw ho=>B2 w ho) ?_;rintro v S' ⟨rfl,rfl⟩;refine aB;refine lf rfl rfl rfl (S:=[.blk g 173 e1]) (fun w hw ho=>G1 w ho) ?_;rintro v S' ⟨rfl,rfl⟩;cases hh:fM md
 ·rw[hh]at G2;rw[if_neg od];refine aB;refine lf rfl rfl rfl (S:=[.blk h 173 e2]) (fun w hw ho=>G2 w ho) ?_;rintro v S' ⟨rfl,rfl⟩;rw[if_neg od];refine aB;exact aK (S':=[.blk g 173 e1,.blk h 173 e2]) rfl rfl aA.au ⟨rfl,rfl⟩
 ·rw[hh]at G2;have hgl:gp.length<100000000:=by
   rcases hgl with h|h
   ·exact h
   ·rw[hh]at h;cases h
  rw[if_pos rfl];refine aB;refine lf rfl rfl rfl (S:=[.blk h 173 e2]) (fun w hw ho=>G2 w ho) ?_;rintro v S' ⟨rfl,rfl⟩;rw[if_pos rfl];refine aB;rename_i b5 b7;refine bT (X:=Nat) (fun i=>i≤gp.length) (fun i=>[(7,.pointer (some ⟨b7,0,none⟩)),(112,.slice a.Ag gp.length a.cg),(113,.int .i64 gp.length),(114,.int .i64 i)])
   (fun _=>[.blk b7 37 [.int .i64 gw,.int .i64 gh,.int .i64 gx,.int .i64 gy,.int .i64 gs,.slice b.Ag gp.length b.cg],.blk g 173 e1,.blk h 173 e2]) (fun i=>gp.length-i) 0 (Nat.zero_le _) ⟨rfl,rfl,rfl,rfl,trivial⟩ aA.au ?_
  intro i hi;rcases Nat.lt_or_ge i gp.length with h'|h'
  ·obtain⟨bA,oA,hA,hAr⟩:=hr1.at_ oo;obtain⟨bB9,oB9,hB,hBr⟩:=hr2.at_ oo;rw[hA,hB];refine aB;exact aN (i+1) h' (by show gp.length-(i+1)<gp.length-i;omega) ⟨rfl,rfl,rfl,by simp[aH],trivial⟩ aA.au
  ·obtain rfl:i=gp.length:=oo;refine aB;exact aK (S':=[.blk g 173 e1,.blk h 173 e2]) rfl rfl aA.au ⟨rfl,rfl⟩
theorem uZ.up{ys f:List Int}{k k2:Nat}{b b2:Int}{s:aL}{a:bR}{ds:List jJ}{x1 x2:gJ}{T:List HE}(h:uZ ys f k b s a ds x1 x2 T)(hk:k≤k2)(hb:b≤b2):uZ ys f k2 b2 s a ds x1 x2 T:=⟨h.ok.up hk,h.near,h.dl,h.g,h.n,h.ca.mono rfl hb⟩
structure aM0 where
 dx:Int
 dy:Int
 up:Int
 ms:Int
deriving Inhabited
abbrev aQ1:aM0→List Value:=fun l=>[.int .i64 l.dx,.int .i64 l.dy,.int .i64 l.up,.int .u32 l.ms]
instance:pX aQ1 4:=⟨fun _=>rfl,od⟩
def aM0.ok(l:aM0):Prop:=aP .i64 l.dx∧aP .i64 l.dy∧aP .i64 l.up∧aP .u32 l.ms
theorem bE2:aBr prog 72 [.i64,.i64,.i64,.u32]:=aIs [[.i64],[.i64],[.i64],[.u32]] underlying72 ⟨_,_,rfl,rfl,aA6,_,_,rfl,rfl,aA6,_,_,rfl,rfl,aA6,_,_,rfl,rfl,bDc,rfl⟩ (by kernel_rfl)
theorem bF2:∀cs,uW [.i64,.i64,.i64,.u32] cs→∃a:aM0,a.ok∧aQ1 a=cs:=by rintro _ ⟨x0,_,rfl,h0,x1,_,rfl,h1,x2,_,rfl,h2,x3,_,rfl,h3,rfl⟩;exact⟨⟨x0,x1,x2,x3⟩,⟨h0,h1,h2,h3⟩,rfl⟩
end Go.Proofs.YtpmkboockihdbaaGreat
namespace Go.Proofs.YtpmkboockihdbaaGreat
open Go.RowKit _root_.Go.Proofs.Tryz
theorem aD.push9{H S R:List HE}(x:HE)(h:aD H S R):aD (x::H) S (x::R):=by
 induction h with
 | nil H=>exact .nil _
 | cons hh _ ih=>exact .cons (.there x hh) ih
theorem aD.whole1:∀T:List HE,aD T T []
 | []=>.nil _
 | x::T=>.cons (.here _ _) (aD.whole1 T)
theorem aS.app(T:List HE){H:List HE}{x:HE}{R:List HE}(h:aS H x R):aS (T++H) x (T++R):=by
 induction T with
 | nil=>exact h
 | cons y T ih=>exact .there y ih
theorem aA.keeps(T:List HE){S H:List HE}(h:aA S H):aA (T++S) (T++H):=by
 induction T with
 | nil=>exact h
 | cons y T ih=>exact .cons (.here y _) ih
theorem aD.app(T:List HE)(R:List HE):aD (T++R) T R:=by
 induction T with
 | nil=>exact .nil _
 | cons y T ih=>exact .cons (.here y _) ih
theorem aD.pushes(T:List HE){H S R:List HE}(h:aD H S R):aD (T++H) S (T++R):=by
 induction T with
 | nil=>exact h
 | cons y T ih=>exact ih.push9 y
instance (priority:=5) (T H R:List HE)(x:HE)[h:aAh H x R]:aAh (T++H) x (T++R):=⟨h.h.app T⟩
instance (priority:=6) (T:List HE):aC9 T T:=⟨aA.refl T⟩
instance (priority:=5) (T S H:List HE)[h:aC9 S H]:aC9 (T++S) (T++H):=⟨h.h.keeps T⟩
instance (priority:=4) (T H:List HE):aC9 T (T++H):=⟨by have:=(aA.nil H).keeps T;rwa [List.append_nil]at this⟩
instance (priority:=3) (y:HE)(T H:List HE)[h:aC9 T H]:aC9 T (y::H):=⟨h.h.skip y⟩
instance (priority:=6) (T:List HE):vC T T []:=⟨aD.whole1 T⟩
instance (priority:=5) (T R:List HE):vC (T++R) T R:=⟨aD.app T R⟩
instance (priority:=4) (y:HE)(T H R:List HE)[h:vC H T R]:vC (y::H) T (y::R):=⟨h.h.push9 y⟩
instance (priority:=3) (T S H R:List HE)[h:vC H T R]:vC (S++H) T (S++R):=⟨h.h.pushes S⟩
theorem aA.seg{H T R S:List HE}(h:aD H T R)(k:aA S R):aA (T++S) H:=by
 induction h with
 | nil H=>exact k
 | cons hh _ ih=>exact .cons hh (ih k)
instance (priority:=1) (T S H R:List HE)[h:vC H T R][k:aC9 S R]:aC9 (T++S) H:=⟨aA.seg h.h k.h⟩
theorem bEd{W H:Nat}{f:List Int}{v:Wv}{b dx dy up ms:Int}(h:v.ok b):(eE W H f v dx dy up ms).1.ok (b+3):=by
 unfold eE;split
 ·rename_i hc;exact bDk (bBb h hc) _ _ 3
 ·exact⟨h.x,h.y,h.high,h.off,h.dx,h.dy,h.time,by have:=h.told;show 0≤v.told∧v.told≤b+3;omega⟩
theorem bEc{W H:Nat}{f:List Int}{v:Wv}{dx dy up ms:Int}:(eE W H f v dx dy up ms).2.1.length≤3:=by
 unfold eE;split
 ·show (goL _ _ _).length≤3;unfold goL;split
  ·exact Nat.le_refl _
  ·show 2≤3;decide
 ·exact Nat.zero_le _
@[reducible] def TwH(K:eT)(c:dU)(bw tw:Nat)(v:Wv)(X:List HE):List HE:=K.HC c (.blk bw 154 (aIr K.g v tw)::.row (.slice (some ⟨tw,0,none⟩) 3 3) 157 2 3 (aR (aQ9 bw) aQe)::X)
attribute [local irreducible] OJ J bO Code.wpIn wpListIn Oper.wpIn bodyPost CallsIn aF
theorem bFc(a:Int)(ha:aP .u8 a)(b:Int)(hb:aP .u8 b)(A:Option Addr)(c:Nat)(z:List Int){w:World}(hr:bF w (aV []) A z.length c 1 (aC .i16 z))(hz:∀x∈z,aP .i16 x)(px:Int)(hpx:aP .i64 px)(py:Int)(hpy:aP .i64 py)(high:Int)(hhigh:aP .i64 high)(off:Int)(hoff:aP .i64 off)(cf:dJ)(Al:Option Addr)(cl:Nat)(l:List aM0)(hrl:bF w (aV []) Al l.length cl 4 (aR aQ1 l))(hl:∀p∈l,p.ok):
  aF prog 9 [.int .u8 a,.int .u8 b,.slice A z.length c,.agg #[.int .i64 px,.int .i64 py],.int .i64 high,.int .i64 off,.agg (qP cf).toArray,.slice Al l.length cl] [] w (fun v _=>v=.bool true):=by
 have ha1:0≤a∧a≤255:=ha;have hb1:0≤b∧b≤255:=hb;obtain⟨W,hW,hW1⟩:∃x:Nat,2+a%39=(x:Int)∧2≤x∧x≤40:=⟨(2+a%39).toNat,oo,oo⟩;obtain⟨H,hH,hH1⟩:∃x:Nat,2+b%39=(x:Int)∧2≤x∧x≤40:=⟨(2+b%39).toNat,oo,oo⟩;have iW:CV prog 17 [] (.bool true) True:=⟨fun _ w=>bFb w⟩;have iCk:=navcheck_cv cf;refine aJ func9 rfl ntmps9 rfl ⟨aE,.nil⟩ (fun n=>?_);simp only[aG];by_cases h1:1000<z.length
 ·have iG:∀w0 W H t u a b,MS prog w0 W H (.binOp .gtr t a b u) [.int .i64 (z.length:Int),.int .i64 1000] (.bool true) True:=fun _ _ _ _ _ _ _=>bM inferInstance trivial (congrArg Value.bool (decide_eq_true oo));refine aB;exact aK rfl rfl (.nil _) rfl
 have iG1:∀w0 W H t u a b,MS prog w0 W H (.binOp .gtr t a b u) [.int .i64 (z.length:Int),.int .i64 1000] (.bool false) True:=fun _ _ _ _ _ _ _=>bM inferInstance trivial (congrArg Value.bool (decide_eq_false oo));by_cases h30:30<l.length
 ·have iG:∀w0 W H t u a b,MS prog w0 W H (.binOp .gtr t a b u) [.int .i64 (l.length:Int),.int .i64 30] (.bool true) True:=fun _ _ _ _ _ _ _=>bM inferInstance trivial (congrArg Value.bool (decide_eq_true oo));refine aB;exact aK rfl rfl (.nil _) rfl
 have iG2:∀w0 W H t u a b,MS prog w0 W H (.binOp .gtr t a b u) [.int .i64 (l.length:Int),.int .i64 30] (.bool false) True:=fun _ _ _ _ _ _ _=>bM inferInstance trivial (congrArg Value.bool (decide_eq_false oo));by_cases hC:oR cf=0
 rotate_left
 ·have iN:∀w0 W H t u a b,MS prog w0 W H (.binOp .neq t a b u) [.int .i64 (oR cf),.int .i64 0] (.bool true) True:=fun _ _ _ _ _ _ _=>bM inferInstance trivial (congrArg Value.bool (by simpa using hC));refine aB;exact aK rfl rfl (.nil _) rfl
 rw[hC]at iCk;refine aB;refine lf rfl rfl rfl (S:=[]) (fun w hw ho=>aWj a b ha hb W H hW hH A c z 30 od 0 0 w ⟨hr.h.go hw (aD.nil _)⟩ oo) ?_;rintro v S' ⟨Af,cfl,rfl,rfl⟩;have hfl:=aKq z (W*H);have hfi:=aTw hz (W*H);generalize mD z (W*H)=f at *;rw[show (1+30%1000:Int)=((31:Nat):Int) by decide];have hcb:2≤W∧W≤256∧2≤H∧H≤256∧1≤31∧31≤1000:=oo;have hF:=aF9 (ox:=0) (oy:=0) hcb hfl hfi (by omega:1≤8∧8≤32);have hget:=aJv (ox:=0) (oy:=0) hcb hfl hfi;obtain⟨-,h2,h3,-,-,-⟩:=aAw (ox:=0) (oy:=0) (z:=f) (W:=W) (H:=H) (cell:=31) oo;refine aB;refine lf rfl rfl rfl (S:=[]) (fun w hw ho=>aRj W H 31 Af cfl f 0 0 w ⟨Ro.row hw (aD.nil _) (by refine bV)⟩ hcb hfl hfi od od) ?_;rintro v S' ⟨Ab,cb,rfl,rfl⟩;have hu:=hF.u8;have hln:=hF.len;generalize fR W H 31 0 0 f=bb at *;refine aB;refine lf rfl rfl rfl (S:=[]) (fun w hw ho=>aUu Ab cb bb px py high off w ⟨Ro.row hw (aD.nil _) (by refine bV)⟩ hu hln) ?_;rintro v S' (⟨code,hne,rfl,rfl,h⟩ | ⟨-,hck,rfl,rfl⟩ | ⟨-,hck,K,bw,tw,hys,hrm,rfl,rfl⟩)
 ·exact absurd (h.one hget) hne
 ·have iN:∀w0 W H t u a b,MS prog w0 W H (.binOp .neq t a b u) [.int .i64 (aE0 px py high off),.int .i64 0] (.bool true) True:=fun _ _ _ _ _ _ _=>bM inferInstance trivial (congrArg Value.bool (by simpa using hck));refine aB;exact aK rfl rfl (.nil _) rfl
 have hv0:=bDv hck;have k0:cV K.ys f K.room (rD 8) 0:=by rw[hrm];exact aMn oo
 have hFK:kJ K.ys f K.room:=by rw[hys,hrm];exact hF
 have iE0:∀w0 W H t u a b,MS prog w0 W H (.binOp .neq t a b u) [.int .i64 0,.int .i64 0] (.bool false) True:=fun _ _ _ _ _ _ _=>bM inferInstance trivial rfl;refine aB;refine lf rfl rfl rfl (S:=[]) (fun w hw ho=>aGv Ab cb bb cf px py w ⟨Ro.row hw (aD.nil _) (by refine bV)⟩ hu hln) ?_;rintro v S' (⟨h,-⟩ | ⟨-,g,s0,an,T,rfl,rfl,ptr,han,hT⟩)
 ·exact absurd hC h
 have hI:=aX7 (f:=f) hC ⟨hpx,hpy⟩ hF han hT;refine xC ?_;simp only[List.cons_append,List.nil_append];refine aB;refine lf rfl rfl rfl (S:=[]) (fun w hw ho=>aGv Ab cb bb cf px py w ⟨Ro.row hw (aD.nil _) (by refine bV)⟩ hu hln) ?_;rintro v S' (⟨h,-⟩ | ⟨-,g2,s2,an2,U,rfl,rfl,ptr2,han2,hT2⟩)
 ·exact absurd hC h
 have hJ:=aX7 (f:=f) hC ⟨hpx,hpy⟩ hF han2 hT2;have hss:s2=s0:=by
  rcases hT with⟨h1,-,hw1,-⟩ | ⟨h1,-,-,hb1⟩
  ·rcases hT2 with⟨h2,-,-,-⟩ | ⟨h2,-,-,⟨code,hne,hg⟩ | ⟨-,hw2⟩⟩
   ·exact h2.trans h1.symm
   ·exact absurd (hg.one hget) hne
   ·rw[hw1]at hw2;cases hw2
  ·rcases hT2 with⟨h2,-,hw2,-⟩ | ⟨h2,-⟩
   ·rcases hb1 with⟨code,hne,hg⟩ | ⟨-,hw1⟩
    ·exact absurd (hg.one hget) hne
    ·rw[hw1]at hw2;cases hw2
   ·exact h2.trans h1.symm
 subst hss;clear hT hT2;have hTw0:TwR s2 s2:=⟨rfl,s2.seq,rfl⟩;refine xC ?_;simp only[List.cons_append,List.nil_append];refine kF (H':=K.HC (rD 8) (.blk bw 154 (aIr K.g (fX px py high off) tw)::.row (.slice (some ⟨tw,0,none⟩) 3 3) 157 2 3 (aR (aQ9 bw) aQe)::nB g s2 an [] (none,0,[]) (none,0,[]) (nB g2 s2 an2 [] (none,0,[]) (none,0,[]) (T++U)))) (by exact aA.au) ?_;refine aB;refine lf rfl rfl rfl (S:=K.W (rD 8) bw tw (fX px py high off)) (fun w hw ho=>bDw K (rD 8) bw tw (fX px py high off) 0 true hv0 od w ho) ?_;rintro v S' ⟨rfl,rfl⟩;rw[if_pos rfl];have hfx:=aPw hv0 (k:=5) (x:=1) (y:=0) od od od;have hv1:({ fX px py high off with told:=(fX px py high off).told+1 }:Wv).ok 1:=⟨hv0.x,hv0.y,hv0.high,hv0.off,hv0.dx,hv0.dy,hv0.time,by show (0:Int)≤0+1∧(0:Int)+1≤1;decide⟩;generalize ({ fX px py high off with told:=(fX px py high off).told+1 }:Wv)=v1 at *;generalize eH (fX px py high off) 5 1 0=x0 at *;have L0:=bDq (W:=wY bb) (H:=hY bb) (f:=f) hTw0 x0;have A0:=bDp (W:=wY bb) (H:=hY bb) (f:=f) s2 x0;have K1:=fun w ho=>bC0 bb f g 0 s2 an [] _ _ T x0 0 w ho hI hfx od od;have K2:=fun w ho=>bC0 bb f g2 0 s2 an2 [] _ _ U x0 0 w ho hJ hfx od od;have K3:=fun a ds y1 y2 U w ho hI=>bC0 bb f g2 1 (jW (wY bb) (hY bb) f s2 x0).1 a ds y1 y2 U x0 6000000 w ho hI hfx od od;generalize jW (wY bb) (hY bb) f s2 x0=r0 at *;obtain⟨s3,out1⟩:=r0;dsimp only at L0 A0 K1 K2 K3;generalize jW (wY bb) (hY bb) f s3 x0=r1 at *;obtain⟨s4,out2⟩:=r1;dsimp only at A0 K3;have hTw1:=L0.trans A0;clear L0 A0;refine aB;rename_i b24;refine fS (S:=nB g s2 an [] (none,0,[]) (none,0,[]) T) rfl rfl aD.au rfl (fun w hw ho=>K1 w ho) ?_;rintro v S' ⟨So,a1,d1,p1,q1,T1,⟨A1,c1,rfl,rfl⟩,rfl,hI1⟩;dsimp only at hI1 ⊢;refine xC ?_;simp only[List.cons_append,List.nil_append];refine kF (H':=.blk b24 67 (dR x0)::TwH K (rD 8) bw tw v1 (nB g s3 a1 d1 p1 q1 (nB g2 s2 an2 [] (none,0,[]) (none,0,[]) (T1++U)))) (by exact aA.au) ?_;refine aB;refine fS (S:=nB g2 s2 an2 [] (none,0,[]) (none,0,[]) U) rfl rfl aD.au rfl (fun w hw ho=>K2 w ho) ?_;rintro v S' ⟨So,a2,d2,p2,q2,U1,⟨A2,c2,rfl,rfl⟩,rfl,hJ1⟩;dsimp only at hJ1 ⊢;refine xC ?_;simp only[List.cons_append,List.nil_append,List.append_nil,List.append_assoc];refine kF (H':=.blk b24 67 (dR x0)::TwH K (rD 8) bw tw v1 (nB g s3 a1 d1 p1 q1 (nB g2 s3 a2 d2 p2 q2 (T1++U1)))) (by exact aA.au) ?_;refine aB;refine fS (S:=nB g2 s3 a2 d2 p2 q2 U1) rfl rfl aD.au rfl (fun w hw ho=>K3 a2 d2 p2 q2 U1 w ho hJ1) ?_;rintro v S' ⟨So,a3,d3,p3,q3,U2,⟨A3,c3,rfl,rfl⟩,rfl,hJ2⟩;dsimp only at hJ2 ⊢;refine xC ?_;simp only[List.cons_append,List.nil_append,List.append_nil,List.append_assoc];refine kF (H':=TwH K (rD 8) bw tw v1 (nB g s3 a1 d1 p1 q1 (nB g2 s4 a3 d3 p3 q3 (T1++U2)))) (by exact aA.au) ?_;refine aB;refine bT (X:=Nat×dU×Wv×aL×aL×(bR×List jJ×gJ×gJ×List HE)×(bR×List jJ×gJ×gJ×List HE)) (fun q=>q.1≤l.length∧cV K.ys f K.room q.2.1 (8*(q.1:Int))∧q.2.2.1.ok (3*(q.1:Int)+1)∧TwR q.2.2.2.1 q.2.2.2.2.1∧uZ bb f (3*q.1+1) (6000000*((3*q.1+1:Nat):Int)) q.2.2.2.1 q.2.2.2.2.2.1.1 q.2.2.2.2.2.1.2.1 q.2.2.2.2.2.1.2.2.1 q.2.2.2.2.2.1.2.2.2.1 q.2.2.2.2.2.1.2.2.2.2∧uZ bb f (6*q.1+2) (6000000*((6*q.1+2:Nat):Int)) q.2.2.2.2.1 q.2.2.2.2.2.2.1 q.2.2.2.2.2.2.2.1 q.2.2.2.2.2.2.2.2.1 q.2.2.2.2.2.2.2.2.2.1 q.2.2.2.2.2.2.2.2.2.2)
  (fun q=>[(7,.slice Al l.length cl),(18,.pointer (some ⟨bw,0,none⟩)),(20,.pointer (some ⟨g,0,none⟩)),(22,.pointer (some ⟨g2,0,none⟩)),(25,.int .i64 q.1)])
  (fun q=>TwH K q.2.1 bw tw q.2.2.1 (nB g q.2.2.2.1 q.2.2.2.2.2.1.1 q.2.2.2.2.2.1.2.1 q.2.2.2.2.2.1.2.2.1 q.2.2.2.2.2.1.2.2.2.1 (nB g2 q.2.2.2.2.1 q.2.2.2.2.2.2.1 q.2.2.2.2.2.2.2.1 q.2.2.2.2.2.2.2.2.1 q.2.2.2.2.2.2.2.2.2.1 (q.2.2.2.2.2.1.2.2.2.2++q.2.2.2.2.2.2.2.2.2.2)))) (fun q=>l.length-q.1) (0,rD 8,v1,s3,s4,(a1,d1,p1,q1,T1),(a3,d3,p3,q3,U2)) ⟨Nat.zero_le _,k0,hv1,hTw1,hI1,hJ2⟩ ⟨rfl,rfl,rfl,rfl,rfl,trivial⟩ aA.au ?_
 clear hI hJ hI1 hJ1 hJ2 hTw0 hTw1 K1 K2 K3 hv0 hv1 k0;rintro⟨j,c,v,s,u,⟨a0,ds,x1,x2,T⟩,⟨b0,es,y1,y2,U⟩⟩ ⟨hj,hc,hv,hTw,hI,hJ⟩;dsimp only at hj hc hv hTw hI hJ ⊢;rcases Nat.lt_or_ge j l.length with h|h
 rotate_left
 ·refine aB;exact aK (S':=[]) rfl rfl (.nil _) rfl
 obtain⟨bL,oL,rfl,hLr⟩:=hrl.at_ (by omega:0<l.length);have hlg:(l.getD j default).ok:=hl _ (by rw[List.getD,List.getElem?_eq_getElem h];exact List.getElem_mem h);have hj30:j<31:=oo;refine aB;refine fL [] (0::1::2::3::4::5::6::7::8::9::10::11::12::13::14::15::16::17::18::19::20::21::22::23::24::25::26::[]) (.nil _) ?_;intro _;refine gP;refine lf rfl rfl rfl (S:=K.W c bw tw v) (fun w hw ho=>aQ0 K c f bw tw v (8*(j:Int)) (3*(j:Int)+1) hv oo (l.getD j default).dx (l.getD j default).dy (l.getD j default).up (l.getD j default).ms hlg.1 hlg.2.1 hlg.2.2.1 hlg.2.2.2 w ho hFK hc oo) ?_;rintro r S' ⟨c1,Aa,ca,rfl,k1,rfl⟩;have hgo:=bEd (W:=wY K.ys) (H:=hY K.ys) (f:=f) (dx:=(l.getD j default).dx) (dy:=(l.getD j default).dy) (up:=(l.getD j default).up) (ms:=(l.getD j default).ms) hv;have hln:=bEc (W:=wY K.ys) (H:=hY K.ys) (f:=f) (v:=v) (dx:=(l.getD j default).dx) (dy:=(l.getD j default).dy) (up:=(l.getD j default).up) (ms:=(l.getD j default).ms);have hfk:=bEb (W:=wY K.ys) (H:=hY K.ys) (f:=f) (dx:=(l.getD j default).dx) (dy:=(l.getD j default).dy) (up:=(l.getD j default).up) (ms:=(l.getD j default).ms) hv;generalize eE (wY K.ys) (hY K.ys) f v (l.getD j default).dx (l.getD j default).dy (l.getD j default).up (l.getD j default).ms=gg at *;obtain⟨v2,fl,code⟩:=gg;dsimp only at hgo hln hfk ⊢;refine gP;have hI0:uZ bb f (3*j+1+0) (6000000*((3*j+1+0:Nat):Int)) s a0 ds x1 x2 T:=hI;have hJ0:uZ bb f (6*j+2+2*0) (6000000*((6*j+2+2*0:Nat):Int)) u b0 es y1 y2 U:=hJ;refine bT (X:=Nat×aL×aL×(bR×List jJ×gJ×gJ×List HE)×(bR×List jJ×gJ×gJ×List HE)) (fun q=>q.1≤fl.length∧TwR q.2.1 q.2.2.1∧uZ bb f (3*j+1+q.1) (6000000*((3*j+1+q.1:Nat):Int)) q.2.1 q.2.2.2.1.1 q.2.2.2.1.2.1 q.2.2.2.1.2.2.1 q.2.2.2.1.2.2.2.1 q.2.2.2.1.2.2.2.2∧uZ bb f (6*j+2+2*q.1) (6000000*((6*j+2+2*q.1:Nat):Int)) q.2.2.1 q.2.2.2.2.1 q.2.2.2.2.2.1 q.2.2.2.2.2.2.1 q.2.2.2.2.2.2.2.1 q.2.2.2.2.2.2.2.2)
  (fun q=>[(7,.slice (some ⟨bL,oL,none⟩) l.length cl),(18,.pointer (some ⟨bw,0,none⟩)),(20,.pointer (some ⟨g,0,none⟩)),(22,.pointer (some ⟨g2,0,none⟩)),(25,.int .i64 j),(26,.slice Aa fl.length ca),(28,.int .i64 q.1)])
  (fun q=>.row (.slice Aa fl.length ca) 67 6 fl.length (aR dR fl)::TwH K c1 bw tw v2 (nB g q.2.1 q.2.2.2.1.1 q.2.2.2.1.2.1 q.2.2.2.1.2.2.1 q.2.2.2.1.2.2.2.1 (nB g2 q.2.2.1 q.2.2.2.2.1 q.2.2.2.2.2.1 q.2.2.2.2.2.2.1 q.2.2.2.2.2.2.2.1 (q.2.2.2.1.2.2.2.2++q.2.2.2.2.2.2.2.2)))) (fun q=>fl.length-q.1) (0,s,u,(a0,ds,x1,x2,T),(b0,es,y1,y2,U)) ⟨Nat.zero_le _,hTw,hI0,hJ0⟩ ⟨rfl,rfl,rfl,rfl,rfl,rfl,rfl,trivial⟩ aA.au ?_
 clear hTw hI hJ hI0 hJ0;rintro⟨k,s,u,⟨a0,ds,x1,x2,T⟩,⟨b0,es,y1,y2,U⟩⟩ ⟨hk,hTw,hI,hJ⟩;dsimp only at hk hTw hI hJ ⊢;rcases Nat.lt_or_ge k fl.length with h'|h'
 ·have hfx:(fl.getD k default).ok:=by rw[List.getD_eq_getElem?_getD,List.getElem?_eq_getElem h'];exact hfk _ (List.getElem_mem h')
  have L0:=bDq (W:=wY bb) (H:=hY bb) (f:=f) hTw (fl.getD k default);have A0:=bDp (W:=wY bb) (H:=hY bb) (f:=f) u (fl.getD k default);have K1:=fun w ho=>bC0 bb f g (3*j+1+k) s a0 ds x1 x2 T (fl.getD k default) (6000000*((3*j+1+k:Nat):Int)) w ho hI hfx oo oo;have K2:=fun w ho=>bC0 bb f g2 (6*j+2+2*k) u b0 es y1 y2 U (fl.getD k default) (6000000*((6*j+2+2*k:Nat):Int)) w ho hJ hfx oo oo;have K3:=fun a ds y1 y2 U w ho hI=>bC0 bb f g2 (6*j+2+2*k+1) (jW (wY bb) (hY bb) f u (fl.getD k default)).1 a ds y1 y2 U (fl.getD k default) (6000000*((6*j+2+2*k:Nat):Int)+6000000) w ho hI hfx oo oo;generalize jW (wY bb) (hY bb) f s (fl.getD k default)=r0 at *;obtain⟨s3,out0⟩:=r0;generalize jW (wY bb) (hY bb) f u (fl.getD k default)=r1 at *;obtain⟨u3,out1⟩:=r1;dsimp only at L0 A0 K1 K2 K3;generalize jW (wY bb) (hY bb) f u3 (fl.getD k default)=r2 at *;obtain⟨u4,out2⟩:=r2;dsimp only at A0 K3;have hTw1:=L0.trans A0;clear L0 A0;refine uI (A:=Aa) (m:=fl.length) (cc:=ca) oo (fun ga hga=>?_);subst hga;refine aB;refine fS (S:=nB g s a0 ds x1 x2 T) rfl rfl aD.au rfl (fun w hw ho=>K1 w ho) ?_;rintro v S' ⟨So,a1,d1,p1,q1,T1,⟨A1,n1,rfl,rfl⟩,rfl,hI1⟩;dsimp only at hI1 ⊢;refine xC ?_;simp only[List.cons_append,List.nil_append,List.append_nil,List.append_assoc];refine kF (H':=.row (.slice (some ⟨ga,0,none⟩) fl.length ca) 67 6 fl.length (aR dR fl)::TwH K c1 bw tw v2 (nB g s3 a1 d1 p1 q1 (nB g2 u b0 es y1 y2 (T1++U)))) (by exact aA.au) ?_;refine aB;refine fS (S:=nB g2 u b0 es y1 y2 U) rfl rfl aD.au rfl (fun w hw ho=>K2 w ho) ?_;rintro v S' ⟨So,a2,d2,p2,q2,U1,⟨A2,n2,rfl,rfl⟩,rfl,hJ1⟩;dsimp only at hJ1 ⊢;refine xC ?_;simp only[List.cons_append,List.nil_append,List.append_nil,List.append_assoc];refine kF (H':=.row (.slice (some ⟨ga,0,none⟩) fl.length ca) 67 6 fl.length (aR dR fl)::TwH K c1 bw tw v2 (nB g s3 a1 d1 p1 q1 (nB g2 u3 a2 d2 p2 q2 (T1++U1)))) (by exact aA.au) ?_;refine aB;refine fS (S:=nB g2 u3 a2 d2 p2 q2 U1) rfl rfl aD.au rfl (fun w hw ho=>K3 a2 d2 p2 q2 U1 w ho hJ1) ?_;rintro v S' ⟨So,a3,d3,p3,q3,U2,⟨A3,n3,rfl,rfl⟩,rfl,hJ2⟩;dsimp only at hJ2 ⊢;refine xC ?_;simp only[List.cons_append,List.nil_append,List.append_nil,List.append_assoc];refine kF (H':=.row (.slice (some ⟨ga,0,none⟩) fl.length ca) 67 6 fl.length (aR dR fl)::TwH K c1 bw tw v2 (nB g s3 a1 d1 p1 q1 (nB g2 u4 a3 d3 p3 q3 (T1++U2)))) (by exact aA.au) ?_;refine aB;exact aN (k+1,s3,u4,(a1,d1,p1,q1,T1),(a3,d3,p3,q3,U2)) ⟨h',hTw1,hI1.up (Nat.le_refl _) oo,hJ2.up (Nat.le_refl _) oo⟩ (by show fl.length-(k+1)<fl.length-k;omega) ⟨rfl,rfl,rfl,rfl,rfl,rfl,by simp[aH],trivial⟩ aA.au
 ·obtain rfl:k=fl.length:=oo;have hTw2:=hTw;obtain⟨-,q,hu⟩:=hTw;obtain⟨lu,hlu⟩:∃y,u.ln=y:=⟨_,rfl⟩;rw[hlu]at hu;clear hlu;subst hu;have M2:∀w,aZ [.blk g2 173 (aI (bX s lu q) b0)] w→aF prog 25 [.pointer (some ⟨g2,0,none⟩)] [.blk g2 173 (aI (bX s lu q) b0)] w (fun v S'=>v=.int .i64 s.mode∧S'=[.blk g2 173 (aI (bX s lu q) b0)]):=fun w ho=>aGp g2 (bX s lu q) b0 w ho hJ.ok.nvl;have I2:∀w,aZ [.blk g2 173 (aI (bX s lu q) b0)] w→aF prog 40 [.pointer (some ⟨g2,0,none⟩)] [.blk g2 173 (aI (bX s lu q) b0)] w (fun v S'=>v=.agg #[.int .i64 s.x,.int .i64 s.y]∧S'=[.blk g2 173 (aI (bX s lu q) b0)]):=fun w ho=>aV7 g2 (bX s lu q) b0 w ho hJ.ok.nvl;have hNs:=hI.ok.nvl;have iNe:∀w0 W H t u a b (kk:IntKind) (v:Int),MS prog w0 W H (.binOp .neq t a b u) [.int kk v,.int kk v] (.bool false) True:=fun _ _ _ _ _ _ _ _ _=>bM inferInstance trivial (congrArg Value.bool aE);refine aB;refine lf rfl rfl rfl (S:=[.blk g 173 (aI s a0),.blk g2 173 (aI (bX s lu q) b0)]) (fun w hw ho=>bEu g g2 (3*j+1+fl.length) (6*j+2+2*fl.length) s lu q a0 b0 w ho hI.ok hJ.ok oo (gD.ro (y:=(a0.Ag,a0.cg,s.g.p)) hI.g hw aD.au (by refine bV) (by refine bV)) (gD.ro (y:=(b0.Ag,b0.cg,s.g.p)) hJ.g hw aD.au (by refine bV) (by refine bV))) ?_;rintro v S' ⟨rfl,rfl⟩;refine aB;refine lf rfl rfl rfl (S:=[.blk g 173 (aI s a0)]) (fun w hw ho=>aGp g s a0 w ho hNs) ?_;rintro v S' ⟨rfl,rfl⟩;refine aB;refine lf rfl rfl rfl (S:=[.blk g2 173 (aI (bX s lu q) b0)]) (fun w hw ho=>M2 w ho) ?_;rintro v S' ⟨rfl,rfl⟩;refine aB;refine lf rfl rfl rfl (S:=[.blk g 173 (aI s a0)]) (fun w hw ho=>aV7 g s a0 w ho hNs) ?_;rintro v S' ⟨rfl,rfl⟩;refine aB;refine lf rfl rfl rfl (S:=[.blk g2 173 (aI (bX s lu q) b0)]) (fun w hw ho=>I2 w ho) ?_;rintro v S' ⟨rfl,rfl⟩;refine aB;exact aN (j+1,c1,v2,s,bX s lu q,(a0,ds,x1,x2,T),(b0,es,y1,y2,U)) ⟨h,k1.mono (by push_cast;omega),by rw[show 3*((j+1:Nat):Int)+1=3*(j:Int)+1+3 by omega];exact hgo,hTw2,hI.up oo (by push_cast;omega),hJ.up oo (by push_cast;omega)⟩ (by show l.length-(j+1)<l.length-j;omega) ⟨rfl,rfl,rfl,rfl,by simp[aH],trivial⟩ aA.au
end Go.Proofs.YtpmkboockihdbaaGreat
namespace Go.Proofs.YtpmkboockihdbaaGreat
open Go.RowKit _root_.Go.Proofs.Tryz
theorem bE3:aBr prog 50 [.i64,.i64,.i64,.i64,.i64,.i64]:=aIs [[.i64],[.i64],[.i64],[.i64],[.i64],[.i64]] underlying50 ⟨_,_,rfl,rfl,aA6,_,_,rfl,rfl,aA6,_,_,rfl,rfl,aFr,_,_,rfl,rfl,aFr,_,_,rfl,rfl,aFr,_,_,rfl,rfl,aFr,rfl⟩ (by kernel_rfl)
theorem bE4:aBr prog 25 [.i64,.i64,.i64]:=aIs [[.i64],[.i64],[.i64]] underlying25 ⟨_,_,rfl,rfl,aA6,_,_,rfl,rfl,aA6,_,_,rfl,rfl,aA6,rfl⟩ (by kernel_rfl)
theorem bE1:aBr prog 52 [.u32,.i64,.i64,.i64,.i64,.i64,.i64,.i64,.i64,.i64,.i64,.i64,.i64,.i64,.i64,.i64,.i64,.i64,.i64,.i64,.i64,.i64,.i64]:=aIs [[.u32,.i64,.i64,.i64],[.i64,.i64,.i64,.i64,.i64,.i64],[.i64,.i64,.i64],[.i64],[.i64],[.i64],[.i64],[.i64],[.i64],[.i64],[.i64],[.i64],[.i64]] underlying52 ⟨_,_,rfl,rfl,bE5,_,_,rfl,rfl,bE3,_,_,rfl,rfl,bE4,_,_,rfl,rfl,aFr,_,_,rfl,rfl,aA6,_,_,rfl,rfl,aA6,_,_,rfl,rfl,aFr,_,_,rfl,rfl,aFr,_,_,rfl,rfl,aFr,_,_,rfl,rfl,aA6,_,_,rfl,rfl,aA6,_,_,rfl,rfl,aA6,_,_,rfl,rfl,aA6,rfl⟩ (by kernel_rfl)
theorem bF1:∀cs,uW [.u32,.i64,.i64,.i64,.i64,.i64,.i64,.i64,.i64,.i64,.i64,.i64,.i64,.i64,.i64,.i64,.i64,.i64,.i64,.i64,.i64,.i64,.i64] cs→∃a:dJ,qP a=cs:=by rintro _ ⟨x0,_,rfl,-,x1,_,rfl,-,x2,_,rfl,-,x3,_,rfl,-,x4,_,rfl,-,x5,_,rfl,-,x6,_,rfl,-,x7,_,rfl,-,x8,_,rfl,-,x9,_,rfl,-,x10,_,rfl,-,x11,_,rfl,-,x12,_,rfl,-,x13,_,rfl,-,x14,_,rfl,-,x15,_,rfl,-,x16,_,rfl,-,x17,_,rfl,-,x18,_,rfl,-,x19,_,rfl,-,x20,_,rfl,-,x21,_,rfl,-,x22,_,rfl,-,rfl⟩;exact⟨⟨x0,x1,x2,x3,x4,x5,x6,x7,x8,x9,⟨x10,x11,x12⟩,x13,x14,x15,x16,x17,x18,x19,x20,x21,x22⟩,rfl⟩
open Go.ChangeAt Go.ChangeShapes Go.Deep Go.Joins Go.WideShapes
set_option maxRecDepth 100000 in
theorem lifted(os:Os)(started:os.Started)(H:Type)(enc:TypeId×Value→H):
  ReturnsInHanded {} Tryz.checked os 9 .any (Rows.worldTwiceSpec.pre6 enc prog Tryz.f9 Rows.worldTwiceRow.domain false) (Rows.worldTwiceSpec.post enc prog Tryz.f9 false true false false):=by
 refine returnsInHanded_of_change (C:=Tryz.checked) own started (by kernel_rfl) func9
  (ChangeSpec.witness6 (enc:=enc) (C:=Tryz.checked) false ⟨#[],#[.int .u8 0,.int .u8 0,.slice none 0 0,.agg #[.int .i64 0,.int .i64 0],.int .i64 0,.int .i64 0,.agg #[.int .u32 0,.int .i64 0,.int .i64 0,.int .i64 0,.int .i64 0,.int .i64 0,.int .i64 0,.int .i64 0,.int .i64 0,.int .i64 0,.int .i64 0,.int .i64 0,.int .i64 0,.int .i64 0,.int .i64 0,.int .i64 0,.int .i64 0,.int .i64 0,.int .i64 0,.int .i64 0,.int .i64 0,.int .i64 0,.int .i64 0],.slice none 0 0],[]⟩ 8 (by kernel_rfl) (by kernel_rfl) (by kernel_rfl) (by kernel_rfl)) ?_
 intro W base args ds gs before hval0 hW hcnd _;have hval:∀(j:Nat) t v,Tryz.f9.params[j]? = some t→args[j]? = some v→Value.okWide prog W .any base t v:=hval0;have hW':=hW;obtain⟨p,q,hA0,hV,rfl,hfz,hnd⟩:=hW;have hA:DataW.TrodAll enc prog W 0 (fun _=>true) true Tryz.f9.params.toList args.toList ds p:=hA0;rw[Tryz.params9]at hA hval;obtain⟨v0,v1,v2,v3,v4,v5,v6,v7,d0,d1,d2,d3,d4,d5,d6,d7,p0,p1,p2,p3,p4,p5,p6,p7,rfl,rfl,rfl,h0,h1,h2,h3,h4,h5,h6,h7⟩:=bF0 hA;clear hA0 hval0;obtain⟨a,rfl,r0⟩:=aPy underlying5 (hval 0 _ _ rfl rfl) h0;obtain⟨b,rfl,r1⟩:=aPy underlying5 (hval 1 _ _ rfl rfl) h1;obtain⟨A2,c2,z,rfl,q2,r2⟩:=bE8 underlying22 underlying121 (by kernel_rfl) (hval 2 _ _ rfl rfl) h2;obtain⟨_,rfl,px,_,rfl,rx3,py,_,rfl,ry3,rfl⟩:=bDe underlying44 bE6 (hval 3 _ _ rfl rfl) h3;obtain⟨high,rfl,r4⟩:=aPy underlying2 (hval 4 _ _ rfl rfl) h4;obtain⟨off,rfl,r5⟩:=aPy underlying2 (hval 5 _ _ rfl rfl) h5;obtain⟨_,rfl,q6⟩:=bDe underlying52 bE1 (hval 6 _ _ rfl rfl) h6;obtain⟨cf,rfl⟩:=bF1 _ q6;obtain⟨A7,c7,l,rfl,q7,r7⟩:=bEa (en:=aQ1) underlying53 bE2 rfl bF2 (hval 7 _ _ rfl rfl) h7;refine(bDz (bFc a r0 b r1 A2 c2 z q2 r2 px rx3 py ry3 high r4 off r5 cf A7 c7 l q7 r7 (w:=W))).mono fun e W' ⟨he,hb⟩=>?_;subst he;exact⟨_,rfl,bE9 (tb:=4) bEh underlying4 hW' rfl rfl (fun es h=>by
  have h':es.length=8:=h
  match es,h' with
  | [_,_,_,_,_,_,_,_],_=>rfl) (of_decide_eq_true (by kernel_rfl)) hb⟩
set_option maxRecDepth 100000 in
theorem bEf:((Rows.worldTwiceRow.inPlace==Tryz.pinned.checked.prog.inPlace 9)&&(Rows.worldTwiceRow.unfollowed==Tryz.pinned.checked.prog.unfollowed 9)&&(Rows.worldTwiceRow.recurses==Tryz.pinned.checked.prog.recurses 9)&&(Rows.worldTwiceRow.named==Tryz.pinned.checked.prog.varsNamed 9))=true:=by kernel_rfl
set_option maxRecDepth 100000 in
theorem bEg:joinedFacts Tryz.pinned.checked.prog 9 Tryz.f9 Rows.worldTwiceSpec Rows.worldTwiceRow=true:=by
 have h:=bEf;simp only[Bool.and_eq_true]at h;obtain⟨⟨⟨a1,a2⟩,a3⟩,a4⟩:=h;unfold joinedFacts;rw[a1,a2,a3,a4];show (_:Bool)=true
 kernel_rfl
theorem holds:Rows.WorldTwiceSaid :=
 OpenClaim.holds_of_wide 9 Tryz.f9 rfl rfl rfl rfl rfl rfl rfl ⟨rfl,rfl,rfl,rfl,rfl⟩ rfl rfl rfl rfl rfl (by kernel_rfl) func9 bEg
  (of_decide_eq_true (by kernel_rfl)) (by unfold Func.isWrapper;first|(rw[if_pos bD];kernel_rfl)|(rw[if_neg bD];exact⟨rfl,rfl⟩))
  (fun os started H enc _=>lifted os started H enc)
#print axioms holds
