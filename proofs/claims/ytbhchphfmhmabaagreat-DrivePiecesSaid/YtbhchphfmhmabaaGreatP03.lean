import Derived.RangeFuncRecord
import Derived.Test.YtbhchphfmhmabaaGreatP01
set_option maxHeartbeats 512000000
set_option maxRecDepth 4000
set_option linter.unusedVariables false
set_option linter.unusedSimpArgs false
namespace Go.Proofs.YtbhchphfmhmabaaGreat
open Go.RowKit
def mk(D:Nat):Deferred:={ target:=.collected D,args:=#[] }
def marks(Ds:List Nat):List Deferred:=Ds.map mk
def vA(Ds:List Nat):List HE:=Ds.map fun D=>.obj D (.deferred (some []))
def over:List Tmp→List Value→List (Nat×Value)→List (Nat×Value)
 | p::ps,v::vs,σ=>over ps vs ((p,v)::σ)
 | _,_,σ=>σ
def qK(P:Program)(l:Nat)(vs:List Value)(S:List HE)(w:World)(Rl:Value→List HE→Prop):Prop :=
 ∃r,w.heap[l]? = some (.loop r)∧vs.length=r.params.size∧∀n,RoundIn Fence.wide n P l r.fn ((r.params.zip vs.toArray).foldl (fun tmps (t,a)=>tmps.setIfInBounds t a) r.tmps) r.assign r.body w (nZ S w Rl)
theorem aMd{N:Nat}: ∀(ps:List Tmp) (vs:List Value) (σ:List (Nat×Value)) (tmps:Array Value),(∀p∈ps,p<N)→tmps.size=N→(∀t v,aI σ t=some v→tmps[t]? = some v) →
  ((ps.zip vs).foldl (fun tmps (p:Tmp×Value)=>tmps.setIfInBounds p.1 p.2) tmps).size=N∧∀t v,aI (over ps vs σ) t=some v→((ps.zip vs).foldl (fun tmps (p:Tmp×Value)=>tmps.setIfInBounds p.1 p.2) tmps)[t]? = some v
 | [],_,σ,tmps,_,hs,h=>by simpa [over] using ⟨hs,h⟩
 | p::ps,[],σ,tmps,_,hs,h=>by simpa [over] using ⟨hs,h⟩
 | p::ps,v::vs,σ,tmps,hp,hs,h=>by
  simp only[over,List.zip_cons_cons,List.foldl_cons];refine aMd ps vs ((p,v)::σ) _ (fun q hq=>hp q (List.mem_cons_of_mem _ hq)) (by simpa using hs) (fun t u hu=>?_);rw[nO]at hu;rw[Array.getElem?_setIfInBounds];by_cases e:p=t
  ·subst e;rw[if_pos rfl]at hu ⊢;rw[if_pos (by rw[hs];exact hp p (List.mem_cons_self ..))];exact hu
  ·rw[if_neg e]at hu ⊢;exact h t u hu
section
variable {F:Fence} {n:Nat} {P:Program} {N:Nat} {ds:List Deferred} {w0:World} {W:Nat→Prop} {σ:List (Nat×Value)} {H R:List HE} {Q:Exit→Act→World→Prop} {K:Act→World→Prop}
variable {d:Nat} {ty:TypeId} {pos:String} {aft:Array Edge} {gd:Option (Nat×Bool)} {o:Oper}
theorem aX2[hF:aU F](hwide:F=Fence.wide){x:Operand}{l:Nat}{args:Array Operand}{ts:Array TypeId}{vs:List Value}{S:List HE}{Rl:Value→List HE→Prop}
  (hx:ev σ x=some (.func (.yield l) #[] #[])) (hv:vals σ args.toList=some vs) (hs:aC H S R) (hdN:Nat.blt d N=true)
  (hy:∀w,St w0 W H w→aZ S w→qK P l vs S w Rl)
  (h:∀v S',Rl v S'→J N ds w0 W ((d,v)::σ) (S'++R) K) :
  OJ F n P N ds w0 W σ H ⟨some d,.call ⟨.value x,args,ts⟩,ty,pos,aft,gd⟩ K Q:=by
 subst hwide;intro a w ha hw;have hargs:args.map a.eval=vs.toArray:=by rw[← yJ ha hv];apply Array.ext';simp
 obtain⟨r,hr,hlen,hround⟩:=hy w hw (hw.sub_own hs);refine⟨fun f _=>trivial,?_⟩;rw[Oper.semAt_plain Fence.wide _ _ aE];have hyl:=run_yield (P:=P) (args:=vs.toArray) hr (by simpa using hlen);simp only[execOp,resolve,invoke,Deferred.ofValue,Sem.run_bind,Sem.run_pure,Result.andThen_ok,ha.eval hx,hargs,Array.empty_append,hyl,Oper.uponIn_round];refine⟨fun hd=>(by cases hd),(hround (n-1)).mono ?_⟩;rintro e w' ⟨v,S',rfl,hr',hst⟩;exact h v S' hr' _ _ (ha.put d v (by simpa using hdN)) (hw.call hs hst)
theorem lyl{ops:Array Oper}{rest:List Oper}{x:Operand}{l:Nat}{args:Array Operand}{ts:Array TypeId}{vs:List Value}{S:List HE}{Rl:Value→List HE→Prop}
  (hw:bT ops σ ⟨some d,.call ⟨.value x,args,ts⟩,ty,pos,aft,gd⟩=some true) (hx:ev σ x=some (.func (.yield l) #[] #[])) (hv:vals σ args.toList=some vs) (hs:aC H S R) (hdN:Nat.blt d N=true)
  (hy:∀w,St w0 W H w→aZ S w→qK P l vs S w Rl)
  (h:∀v S',Rl v S'→J N ds w0 W ((d,v)::σ) (S'++R) (wpListIn Fence.wide n P ops Q rest)) :
  J N ds w0 W σ H (wpListIn Fence.wide n P ops Q (⟨some d,.call ⟨.value x,args,ts⟩,ty,pos,aft,gd⟩::rest)):=jZ hw (aX2 rfl hx hv hs hdN hy h)
theorem uB{l:Nat}{vs:List Value}{w:World}{ps:Array Tmp}{assign body:Code}{S0:List HE}{Rl:Value→List HE→Prop}{σr:List (Nat×Value)}
  (hown:aZ (.loop l N σr ps assign body .ready none::S0) w) (hlen:vs.length=ps.size) (hps:∀p∈ps.toList,p<N)
  (h:∀n,J N [] w (bB (.loop l N σr ps assign body .ready none::S0)) (over ps.toList vs σr) (.loop l N σr ps assign body .ready none::S0)
   (assign.wpIn (Fence.wide.inRound l) n P (Exit.then (fun a₁ w₁=>∃w₂,(Instr.beginRound l).run P w₁=.ok () w₂∧body.wpIn (Fence.wide.inRound l) n P (roundPost P l (nZ (.loop l N σr ps assign body .ready none::S0) w Rl)) a₁ w₂) (fun _ _ _=>False)))) :
  qK P l vs (.loop l N σr ps assign body .ready none::S0) w Rl:=by
 obtain⟨r,hr,e1,e2,e3,e4,e5,e6,e7⟩:=hown.holds _ (List.mem_cons_self ..);refine⟨r,hr,by rw[e3];exact hlen,fun n=>?_⟩;refine roundIn_of_wpIn trivial ?_;rw[e3,e4,e5];obtain⟨k1,k2⟩:=aMd ps.toList vs σr r.tmps hps e6 e7;have hz:((ps.zip vs.toArray).foldl (fun tmps (t,a)=>tmps.setIfInBounds t a) r.tmps)=((ps.toList.zip vs).foldl (fun tmps (p:Tmp×Value)=>tmps.setIfInBounds p.1 p.2) r.tmps):=by rw[← Array.foldl_toList,Array.toList_zip]
 rw[hz];exact h n _ _ ⟨k1,rfl,k2⟩ (St.start hown)
theorem aDa{w:World}{l:Nat}{o:Obj}(h:l<w.heap.size):(w.putObj l o).heap[l]? = some o:=World.putObj_heap_same h
theorem aEl{l:Nat}{σr:List (Nat×Value)}{ps:Array Tmp}{assign body:Code}{Nr:Nat}{pend:Option Code}{c:Code}
  (h:J N ds w0 W σ (.loop l Nr σr ps assign body .busy pend::H) (c.wpIn F n P Q)) :
  J N ds w0 W σ (.loop l Nr σr ps assign body .ready pend::H) (fun a₁ w₁=>∃w₂,(Instr.beginRound l).run P w₁=.ok () w₂∧c.wpIn F n P Q a₁ w₂):=by
 intro a w ha hw;obtain⟨r,hr,e1,e2,e3⟩:=hw.own.holds _ (List.mem_cons_self ..);have hlt:l<w.heap.size:=(Array.getElem?_eq_some_iff.1 hr).1;refine⟨_,run_beginRound hr e1,h _ _ ha (hw.turn (.here _ _) ⟨_,aDa hlt,rfl,e2,e3⟩ rfl rfl rfl aE (fun b _ hb=>World.putObj_heap_other (fun e=>hb (by rw[e];rfl))) (.inl rfl))⟩
theorem bAc{l:Nat}{σr:List (Nat×Value)}{ps:Array Tmp}{assign body:Code}{Nr:Nat}{st:LoopState}{pend:Option Code}{S' S:List HE}{Rl:Value→List HE→Prop}{w:World}(jump:Option Code)
  (hw:St w0 W (.loop l Nr σr ps assign body st pend::H) w) (hs:aA S' (.loop l Nr σr ps assign body (if jump.isNone then .ready else .done) jump::H)) (hR:Rl (.bool jump.isNone) S') (hWS:W=bB S) :
  ∃v w',(Instr.endRound l jump).run P w=.ok v w'∧nZ S w0 Rl (.returned v) w':=by
 subst hWS;obtain⟨r,hr,e1,e2,e3⟩:=hw.own.holds _ (List.mem_cons_self ..);have hlt:l<w.heap.size:=(Array.getElem?_eq_some_iff.1 hr).1;refine⟨_,_,run_endRound jump hr,_,S',rfl,hR,St.sub ?_ hs⟩;exact hw.turn (y:=.loop l Nr σr ps assign body (if jump.isNone then .ready else .done) jump) (.here _ _) ⟨_,aDa hlt,rfl,rfl,e3⟩ rfl rfl rfl aE (fun b _ hb=>World.putObj_heap_other (fun e=>hb (by rw[e];rfl))) (.inl rfl)
theorem aEn{l:Nat}{σr:List (Nat×Value)}{ps:Array Tmp}{assign body:Code}{Nr:Nat}{st:LoopState}{pend:Option Code}{S' S:List HE}{Rl:Value→List HE→Prop}
  (hs:aA S' (.loop l Nr σr ps assign body .ready none::H)) (hR:Rl (.bool true) S'):J N ds w0 (bB S) σ (.loop l Nr σr ps assign body st pend::H) (roundPost P l (nZ S w0 Rl) .normal) :=
 fun _ _ _ hw=>bAc none hw hs hR rfl
theorem St.newObj{w:World}(h:St w0 W H w)(o:Obj)(x:HE)(hb:x.block=some w.heap.size)(hx:x.holds (w.alloc o)):St w0 W (x::H) (w.alloc o):=by
 refine⟨h.os,h.tape,h.output,Nat.le_trans h.size aE,fun b hb hW=>(Below.heap_alloc w _ b (Nat.lt_of_lt_of_le hb h.size)).trans (h.old b hb hW),⟨fun y hy=>?_,?_⟩,fun y hy b hyb=>?_⟩
 ·rcases List.mem_cons.1 hy with rfl|hy
  ·exact hx
  ·exact HE.keep (h.own.holds y hy) fun b hb=>Below.heap_alloc w _ b (HE.lt (h.own.holds y hy) hb)
 ·refine List.pairwise_cons.2 ⟨fun y hy=>.inr fun he=>?_,h.own.apart⟩;rw[hb]at he;have:=HE.lt (h.own.holds y hy) he.symm;omega
 ·rcases List.mem_cons.1 hy with rfl|hy
  ·rw[hb]at hyb;injection hyb with hyb;subst hyb;exact .inr h.size
  ·exact h.mine y hy b hyb
theorem aF.conv{f:FuncId}{args:List Value}{S S2:List HE}{w:World}{Rl Rl':Value→List HE→Prop}(h:aF P f args S w Rl)(hp:S.Perm S2)(hr:∀v S',Rl v S'→∃S'',S'.Perm S''∧Rl' v S''):aF P f args S2 w Rl':=fun n=>by
 refine(h n).mono ?_;rintro e w' ⟨v,S',rfl,hr',hst⟩;obtain⟨S'',hp2,hr2⟩:=hr v S' hr';have hb:bB S=bB S2:=by funext b;apply propext;exact⟨fun ⟨x,hx,hb⟩=>⟨x,hp.mem_iff.1 hx,hb⟩,fun ⟨x,hx,hb⟩=>⟨x,hp.mem_iff.2 hx,hb⟩⟩
 exact⟨v,S'',rfl,hr2,by rw[← hb];exact hst.perm hp2⟩
theorem aAd{g:Operand}{ps:Array Tmp}{assign body:Code}{f:FuncId}{captured:Array Value}[hcl:Cl P f]{S0:List HE}{Rp:Nat→Nat→Option Code→List HE→Prop}
  (hx:ev σ g=some (.func (.func f) #[] captured)) (hs:aC H S0 R)
  (hc:∀(D l:Nat) (w:World) (LE:HE),LE=.loop l N σ ps assign body .ready none→St w0 W (LE::.obj D (.deferred (some []))::H) w→aZ (LE::S0) w →
   aF P f (.func (.yield l) #[] #[]::captured.toList) (LE::S0) w fun _ S'=>∃st pend S1,S'=.loop l N σ ps assign body st pend::S1∧st≠.busy∧Rp D l pend S1)
  (h:∀D l pend S1,Rp D l pend S1→(pend=none→J N (mk D::ds) w0 W σ (S1++.obj D (.deferred (some []))::R) (Q .normal))∧(∀c,pend=some c→J N (mk D::ds) w0 W σ (S1++.obj D (.deferred (some []))::R) (c.wpIn Fence.wide n P Q))) :
  J N ds w0 W σ H ((Code.rangeFunc g ps assign body).wpIn Fence.wide n P Q):=by
 intro a w ha hw;refine wpIn_rangeFunc fun fn _=>?_;have h1:St w0 W (.obj w.heap.size (.deferred (some []))::H) (w.alloc (.deferred (some []))):=hw.newObj _ _ rfl (World.alloc_heap_new _ _);have h2:St w0 W (.loop (w.heap.size+1) N σ ps assign body .ready none::.obj w.heap.size (.deferred (some []))::H) ((w.alloc (.deferred (some []))).alloc (.loop { state:=.ready,pending:=none,fn,tmps:=a.tmps,params:=ps,assign,body,defers:=w.heap.size })):=by refine h1.newObj _ _ (by simp[HE.block]) ⟨_,by have:=World.alloc_heap_new (w.alloc (.deferred (some []))) (.loop { state:=.ready,pending:=none,fn,tmps:=a.tmps,params:=ps,assign,body,defers:=w.heap.size });rwa [World.size_alloc]at this,rfl,rfl,rfl,rfl,rfl,ha.size,ha.at_⟩
 have hen:=run_enterLoop_outer (P:=P) (w:=w) fn a.tmps ps assign body;generalize ((w.alloc (.deferred (some []))).alloc (.loop { state:=.ready,pending:=none,fn,tmps:=a.tmps,params:=ps,assign,body,defers:=w.heap.size }))=W2 at h2 hen;refine⟨w.heap.size+1,[mk w.heap.size],W2,{ target:=.fn (.func f) captured,args:=#[.func (.yield (w.heap.size+1)) #[] #[]] },W2,f,#[.func (.yield (w.heap.size+1)) #[] #[]]++captured,W2,hen,?_,?_,?_,?_⟩
 ·have hg:=ha.eval hx;have hy:a.eval (.const (.func (.yield (w.heap.size+1)) #[] #[]))=.func (.yield (w.heap.size+1)) #[] #[]:=rfl;simp only[resolve,rangeCall,Deferred.ofValue,hg,List.map_toArray,List.map_cons,List.map_nil,hy,Sem.run_pure,Array.empty_append]
 ·exact fun _ _=>trivial
 ·simp only[invoke];exact hcl.h _ _
 ·refine⟨fun hd=>(by cases hd),?_⟩;have hspl:aC (.loop (w.heap.size+1) N σ ps assign body .ready none::.obj w.heap.size (.deferred (some []))::H) (.loop (w.heap.size+1) N σ ps assign body .ready none::S0) (.obj w.heap.size (.deferred (some []))::R):=by
   refine .cons (.here _ _) ?_;have key:∀{H S R:List HE} (y:HE),aC H S R→aC (y::H) S (y::R):=by
    intro H S R y hsp
    induction hsp with
    | nil H=>exact .nil _
    | cons h _ ih=>exact .cons (.there y h) ih
   exact key _ hs
  have hd:=hc _ _ _ _ rfl h2 (h2.sub_own hspl) (n-1);have e0:(.func (.yield (w.heap.size+1)) #[] #[]::captured.toList:List Value).toArray=#[.func (.yield (w.heap.size+1)) #[] #[]]++captured:=by apply Array.ext';simp
  rw[e0]at hd;refine hd.mono ?_;rintro e w3 ⟨v,S',rfl,⟨st,pend,S1,rfl,hnb,hRp⟩,hst⟩;have h3:St w0 W (.loop (w.heap.size+1) N σ ps assign body st pend::(S1++.obj w.heap.size (.deferred (some []))::R)) w3:=h2.call hspl hst;obtain⟨r,hr,k1,k2,k3⟩:=h3.own.holds _ (List.mem_cons_self ..);have hlt:w.heap.size+1<w3.heap.size:=(Array.getElem?_eq_some_iff.1 hr).1;refine⟨pend,w3.putObj (w.heap.size+1) (.loop { r with state:=.exhausted }),by rw[← k2];exact run_endLoop hr (by rw[k1];exact hnb),?_⟩;have h4:St w0 W (.loop (w.heap.size+1) N σ ps assign body .exhausted pend::(S1++.obj w.heap.size (.deferred (some []))::R)) (w3.putObj (w.heap.size+1) (.loop { r with state:=.exhausted })) :=
   h3.turn (.here _ _) ⟨_,aDa hlt,rfl,k2,k3⟩ rfl rfl rfl aE (fun b _ hb=>World.putObj_heap_other (fun e=>hb (by rw[e];rfl))) (.inl rfl)
  have h5:=h4.sub ((aA.refl _).skip _);have ha':Tm N (mk w.heap.size::ds) σ { a with defers:=[mk w.heap.size]++a.defers }:=⟨ha.size,by simp[ha.defers],ha.at_⟩;obtain⟨q1,q2⟩:=h _ _ _ _ hRp;cases pend with
  | none=>exact q1 rfl _ _ ha' h5
  | some c=>exact q2 c rfl _ _ ha' h5
theorem uR{f:FuncId}{fn:Func}{c:Code}{S:List HE}{args:List Value}{w:World}{Rl:Value→List HE→Prop}(hf:P.funcs[f]? = some fn)(hb:fn.body=some c)(hN:fn.ntmps=N)(hle:Nat.ble args.length N=true)(hown:aZ S w)
  (h:∀n,J N [] w (bB S) (aG 0 args) S (c.wpIn Fence.wide n P (bodyPostM Fence.wide n P fn (nZ S w Rl)))):aF P f args S w Rl:=fun n=>by
 refine callsIn_of_wp_marks hf hb trivial (h n _ _ ⟨?_,rfl,fun t v ht=>?_⟩ (St.start hown)) rfl
 ·have:=Nat.le_of_ble_eq_true hle;simp[hN];omega
 ·obtain⟨-,h2⟩:=aFw _ _ _ _ ht;rw[Nat.sub_zero]at h2;rw[Array.getElem?_append_left (by simpa using (List.getElem?_eq_some_iff.1 h2).1)];simpa using h2
theorem aCt{fn:Func}{Rr:Ending→World→Prop}{tmps:Array Value}{S':List HE}(hend:∀w,St w0 W S' w→∃v,(results fn tmps).run P w=.ok v w∧Rr (.returned v) w):
  ∀(Ds:List Nat) (w:World),St w0 W (S'++vA Ds) w→LeavesInM Fence.wide n P fn tmps Rr (marks Ds) .returning w
 | [],w,hw=>by
  obtain⟨v,h1,h2⟩:=hend w (by simpa [vA] using hw);exact⟨v,h1,h2⟩
 | D::Ds,w,hw=>by
  have hperm:(S'++vA (D::Ds)).Perm (.obj D (.deferred (some []))::(S'++vA Ds)):=List.perm_middle;have h1:=hw.perm hperm;have hD:w.heap[D]? = some (.deferred (some [])):=h1.own.holds _ (List.mem_cons_self ..);have hlt:D<w.heap.size:=(Array.getElem?_eq_some_iff.1 hD).1;have h2:St w0 W (.obj D (.deferred none)::(S'++vA Ds)) (w.putObj D (.deferred none)) :=
   h1.turn (.here _ _) (aDa hlt) rfl rfl rfl aE (fun b _ hb=>World.putObj_heap_other (fun e=>hb (by rw[e];rfl))) (.inl rfl)
  exact⟨aE,.inl ⟨D,_,rfl,run_takeDeferred hD,aCt hend Ds _ (h2.sub ((aA.refl _).skip _))⟩⟩
theorem aUz{fn:Func}{Ds:List Nat}{S' S:List HE}{Rl:Value→List HE→Prop}(hres:fn.results=#[])(hs:aA (S'++vA Ds) H)(hR:Rl (.tuple #[]) S')(e:Exit)(he:e=.normal∨e=.ret):J N (marks Ds) w0 (bB S) σ H (bodyPostM Fence.wide n P fn (nZ S w0 Rl) e):=fun a w ha hw=>by
 have:=aCt (n:=n) (P:=P) (fn:=fn) (Rr:=nZ S w0 Rl) (tmps:=a.tmps) (fun w' hw'=>⟨_,results_none hres _ _ _,_,S',rfl,hR,hw'⟩) Ds w (hw.sub hs);rcases he with rfl|rfl
 ·show LeavesInM _ _ _ _ _ _ a.defers _ _;rw[ha.defers];exact this
 ·show LeavesInM _ _ _ _ _ _ a.defers _ _;rw[ha.defers];exact this
theorem aV0{fn:Func}{t u:Tmp}{v x:Value}{Ds:List Nat}{S' S:List HE}{Rl:Value→List HE→Prop}(hres:fn.results=#[.tmp t,.tmp u])(hv:aI σ t=some v)(hx:aI σ u=some x)(hs:aA (S'++vA Ds) H)(hR:Rl (.tuple #[v,x]) S'):J N (marks Ds) w0 (bB S) σ H (bodyPostM Fence.wide n P fn (nZ S w0 Rl) .ret):=fun a w ha hw=>by have:=aCt (n:=n) (P:=P) (fn:=fn) (Rr:=nZ S w0 Rl) (tmps:=a.tmps) (fun w' hw'=>⟨_,results_tmp2 hres _ _ _,_,S',by rw[qV ha hv,qV ha hx],hR,hw'⟩) Ds w (hw.sub hs);show LeavesInM _ _ _ _ _ _ a.defers _ _;rw[ha.defers];exact this
end
