import Derived.LoopNIn
import Derived.WalkLawsBesides
import Derived.BigQuiet
import Derived.Deep.QuietTactic
import Derived.Test.YtbhchphfmhmabaaGreatP08
set_option maxHeartbeats 512000000
set_option maxRecDepth 4000
set_option linter.unusedVariables false
set_option linter.unusedSimpArgs false
namespace Go.Proofs.YtbhchphfmhmabaaGreat
open Go.RowKit _root_.Go.Proofs.Tryz
class jI(c:Bool)(p:outParam Prop):Prop where h:c=true↔p
instance (priority:=10) (c:Bool):jI c (c=true):=⟨Iff.rfl⟩
instance (p:Prop)[Decidable p]:jI (decide p) p:=⟨decide_eq_true_iff⟩
instance (a b:Int):jI (a==b) (a=b):=⟨aE⟩
instance (a b:Int):jI (a != b) (a≠b):=⟨aE⟩
instance (c:Bool)(p:Prop)[h:jI c p]:jI (!c) (¬p):=⟨by rw[← h.h];cases c<;>simp⟩
instance (c d:Bool)(p q:Prop)[h:jI c p][g:jI d q]:jI (c&&d) (p∧q):=⟨by rw[← h.h,← g.h];cases c<;>cases d<;>simp⟩
instance (c d:Bool)(p q:Prop)[h:jI c p][g:jI d q]:jI (c==d) (p↔q):=⟨by rw[← h.h,← g.h];cases c<;>cases d<;>simp⟩
theorem jI.no{c:Bool}{p:Prop}[h:jI c p](hc:c=false):¬p:=fun hp=>by rw[h.h.2 hp]at hc;cases hc
class CV(P:Program)(f:FuncId)(us:List Value)(v:outParam Value)(c:outParam Prop):Prop where h:c→∀w,aF P f us [] w fun u S'=>u=v∧S'=[]
class vP(a:Int)(n:outParam Nat):Prop where h:a=(n:Int)
instance (n:Nat):vP (no_index (OfNat.ofNat n:Int)) (OfNat.ofNat n):=⟨rfl⟩
instance (a b:Int)(n m:Nat)[h:vP a n][g:vP b m]:vP (a+b) (n+m):=⟨by rw[h.h,g.h];push_cast;rfl⟩
section
variable {F:Fence} {n:Nat} {P:Program} {N:Nat} {ds:List Deferred} {w0:World} {W:Nat→Prop} {σ:List (Nat×Value)} {H:List HE} {Q:Exit→Act→World→Prop}
variable {ops:Array Oper} {rest:List Oper} {o:Oper} {p:Prop} {T:List (Nat×Value)→Prop}
theorem aKr(t:Nat){c:Bool}[hb:jI c p]{q:Act→World→Prop}(hl:aI σ t=some (.bool c))(ht:p→J N ds w0 W ((t,.bool true)::σ) H q)(hf:¬p→J N ds w0 W ((t,.bool false)::σ) H q):J N ds w0 W σ H q :=
 nM t hl (fun h=>ht (hb.h.1 h)) (fun h=>hf (jI.no h))
theorem mG(b0:Bool){j t:Nat}{b:Bool}(hg:o.guard=some (j,b))(ht:(ops[j]?).bind (·.dst)=some t)(hv:aI σ t=some (.bool b0))(h:J N ds w0 W σ H (wpListIn F n P ops Q (o::rest))):J N ds w0 W σ H (wpListIn F n P ops Q (o::rest)):=h
theorem aKi(b0:Bool){j t:Nat}{b:Bool}{l:List Oper}{k:Act→World→Prop}(hg:o.guard=some (j,b))(ht:(ops[j]?).bind (·.dst)=some t)(hv:aI σ t=some (.bool b0))(h:bM F n P N ds w0 W H ops (o::l) σ (fun τ=>J N ds w0 W τ H k)):bM F n P N ds w0 W H ops (o::l) σ (fun τ=>J N ds w0 W τ H k):=h
theorem aDx(b0:Bool){HL:List HE}{j t:Nat}{b:Bool}{l:List Oper}{k:Act→World→Prop}(hg:o.guard=some (j,b))(ht:(ops[j]?).bind (·.dst)=some t)(hv:aI σ t=some (.bool b0))(h:fR P N w0 W HL ops (o::l) σ (fun τ=>J N ds w0 W τ H k)):fR P N w0 W HL ops (o::l) σ (fun τ=>J N ds w0 W τ H k):=h
theorem uV{j t:Nat}{b c:Bool}[hb:jI c p](hg:o.guard=some (j,b))(ht:(ops[j]?).bind (·.dst)=some t)(hv:aI σ t=some (.bool c))
  (h1:p→J N ds w0 W ((t,.bool true)::σ) H (wpListIn F n P ops Q (o::rest))) (h2:¬p→J N ds w0 W ((t,.bool false)::σ) H (wpListIn F n P ops Q (o::rest))):J N ds w0 W σ H (wpListIn F n P ops Q (o::rest)):=aKr t hv h1 h2
theorem aU5{j t:Nat}{b c:Bool}{l:List Oper}{k:Act→World→Prop}[hb:jI c p](hg:o.guard=some (j,b))(ht:(ops[j]?).bind (·.dst)=some t)(hv:aI σ t=some (.bool c))
  (h1:p→bM F n P N ds w0 W H ops (o::l) ((t,.bool true)::σ) (fun τ=>J N ds w0 W τ H k)) (h2:¬p→bM F n P N ds w0 W H ops (o::l) ((t,.bool false)::σ) (fun τ=>J N ds w0 W τ H k)) :
  bM F n P N ds w0 W H ops (o::l) σ (fun τ=>J N ds w0 W τ H k):=aCm t hv (fun h=>h1 (hb.h.1 h)) (fun h=>h2 (jI.no h))
theorem aOz{HL:List HE}{j t:Nat}{b c:Bool}{l:List Oper}{k:Act→World→Prop}[hb:jI c p](hg:o.guard=some (j,b))(ht:(ops[j]?).bind (·.dst)=some t)(hv:aI σ t=some (.bool c))
  (h1:p→fR P N w0 W HL ops (o::l) ((t,.bool true)::σ) (fun τ=>J N ds w0 W τ H k)) (h2:¬p→fR P N w0 W HL ops (o::l) ((t,.bool false)::σ) (fun τ=>J N ds w0 W τ H k)) :
  fR P N w0 W HL ops (o::l) σ (fun τ=>J N ds w0 W τ H k):=bCu t hv (fun h=>h1 (hb.h.1 h)) (fun h=>h2 (jI.no h))
theorem aU7{d:Nat}{ty:TypeId}{pos:String}{aft:Array Edge}{gd:Option (Nat×Bool)}{x y z:Operand}{v:Value}{l:List Oper}[aU F](hw:bT ops σ ⟨some d,.pick x y z,ty,pos,aft,gd⟩=some true)(hc:ev σ x=some (.bool true))(hx:ev σ y=some v)(hdN:Nat.blt d N=true)
  (h:bM F n P N ds w0 W H ops l ((d,v)::σ) T):bM F n P N ds w0 W H ops (⟨some d,.pick x y z,ty,pos,aft,gd⟩::l) σ T:=xV rfl hdN hw (fun _ _ hk=>aGx hc hx hdN hk) h
theorem aU6{d:Nat}{ty:TypeId}{pos:String}{aft:Array Edge}{gd:Option (Nat×Bool)}{x y z:Operand}{v:Value}{l:List Oper}[aU F](hw:bT ops σ ⟨some d,.pick x y z,ty,pos,aft,gd⟩=some true)(hc:ev σ x=some (.bool false))(hx:ev σ z=some v)(hdN:Nat.blt d N=true)
  (h:bM F n P N ds w0 W H ops l ((d,v)::σ) T):bM F n P N ds w0 W H ops (⟨some d,.pick x y z,ty,pos,aft,gd⟩::l) σ T:=xV rfl hdN hw (fun _ _ hk=>aGw hc hx hdN hk) h
theorem aP1{HL:List HE}{d:Nat}{ty:TypeId}{pos:String}{aft:Array Edge}{gd:Option (Nat×Bool)}{x y z:Operand}{v:Value}{l:List Oper}(hw:bT ops σ ⟨some d,.pick x y z,ty,pos,aft,gd⟩=some true)(hc:ev σ x=some (.bool true))(hx:ev σ y=some v)(hdN:Nat.blt d N=true)
  (h:fR P N w0 W HL ops l ((d,v)::σ) T):fR P N w0 W HL ops (⟨some d,.pick x y z,ty,pos,aft,gd⟩::l) σ T :=
 ⟨d,v,rfl,by simpa using hdN,.inl ⟨hw,fun ρ hρ w _=>by have h1:=hρ x (by simp[Op.operands]) _ hc;have h2:=hρ y (by simp[Op.operands]) _ hx;simp[execOp,h1,h2,asBool]⟩,h⟩
theorem aP0{HL:List HE}{d:Nat}{ty:TypeId}{pos:String}{aft:Array Edge}{gd:Option (Nat×Bool)}{x y z:Operand}{v:Value}{l:List Oper}(hw:bT ops σ ⟨some d,.pick x y z,ty,pos,aft,gd⟩=some true)(hc:ev σ x=some (.bool false))(hx:ev σ z=some v)(hdN:Nat.blt d N=true)
  (h:fR P N w0 W HL ops l ((d,v)::σ) T):fR P N w0 W HL ops (⟨some d,.pick x y z,ty,pos,aft,gd⟩::l) σ T :=
 ⟨d,v,rfl,by simpa using hdN,.inl ⟨hw,fun ρ hρ w _=>by have h1:=hρ x (by simp[Op.operands]) _ hc;have h2:=hρ z (by simp[Op.operands]) _ hx;simp[execOp,h1,h2,asBool]⟩,h⟩
theorem tH{x:Operand}{y z:Code}{c:Bool}[hb:jI c p](hc:ev σ x=some (.bool c))(ht:p→J N ds w0 W σ H (y.wpIn F n P Q))(hf:¬p→J N ds w0 W σ H (z.wpIn F n P Q)):
  J N ds w0 W σ H ((Code.cond x y z).wpIn F n P Q):=fB hc (fun h=>ht (hb.h.1 h)) (fun h=>hf (jI.no h))
def stB(ops:Array Oper)(mask:List Bool):Bool:=(List.range ops.size).all fun i=>match ops[i]? with
 | some o=>match o.op with | .store ..=>eN ops mask i | .call ⟨.builtin .append,_,_⟩=>eN ops mask i|_=>true
 | none=>true
theorem aQz{id:Nat}{l:List Oper}{mask:List Bool}{r:List Nat}[hF:aU F](hm:aAq l.toArray l 0 [] []=mask)(hr:oF l.toArray mask=r)(hmx:P.follows .mixedOrders=true)(hok:(sL l.toArray mask&&stB l.toArray mask)=true)
  (h:fR P N w0 W H l.toArray (cQ l.toArray (fH l.toArray mask)) σ (fun τ=>J N ds w0 W τ H (cC F n P w0 W H l.toArray mask Q r.length r))):J N ds w0 W σ H ((Code.region id l.toArray true).wpIn F n P Q) :=
 dM H mask r (aA.refl _) hr hmx (by simp only[Bool.and_eq_true]at hok;exact hok.1) h
class Er(H:List HE)(k:Nat)(HL:outParam (List HE)):Prop where h:aA HL H
instance (x:HE)(r:List HE):Er (x::r) 0 r:=⟨aA.skip (aA.refl _) _⟩
instance (x:HE)(r r':List HE)(k:Nat)[h:Er r k r']:Er (x::r) (k+1) (x::r'):=⟨h.h.keep x⟩
theorem aIv(k:Nat){HL:List HE}{id:Nat}{l:List Oper}{mask:List Bool}{r:List Nat}[hF:aU F][he:Er H k HL](hm:aAq l.toArray l 0 [] []=mask)(hr:oF l.toArray mask=r)(hmx:P.follows .mixedOrders=true)(hok:sL l.toArray mask=true)
  (h:fR P N w0 W HL l.toArray (cQ l.toArray (fH l.toArray mask)) σ (fun τ=>J N ds w0 W τ H (cC F n P w0 W HL l.toArray mask Q r.length r))):J N ds w0 W σ H ((Code.region id l.toArray true).wpIn F n P Q) :=
 dM HL mask r he.h hr hmx hok h
variable {dst:Nat} {f:FuncId} {args:Array Operand} {ts:Array TypeId} {us:List Value} {v:Value} {c:Prop} {ty:TypeId} {pos:String} {aft:Array Edge} {gd:Option (Nat×Bool)}
theorem uX[aU F][WF F][Cl P f]
  (hw:bT ops σ ⟨some dst,.call ⟨.value (.func f),args,ts⟩,ty,pos,aft,gd⟩=some true) (hv:vals σ args.toList=some us) [hc:CV P f us v c] (hdN:Nat.blt dst N=true) (hcc:c) (h:J N ds w0 W ((dst,v)::σ) H (wpListIn F n P ops Q rest)) :
  J N ds w0 W σ H (wpListIn F n P ops Q (⟨some dst,.call ⟨.value (.func f),args,ts⟩,ty,pos,aft,gd⟩::rest)):=bU hw hv hdN (fun w _=>hc.h hcc w) h
theorem hcv[aU F][WF F][Cl P f]
  (hw:bT ops σ ⟨some dst,.call ⟨.value (.func f),args,ts⟩,ty,pos,aft,gd⟩=some true) (hv:vals σ args.toList=some us) [hc:CV P f us v c] (hdN:Nat.blt dst N=true) (hcc:c) (h:bM F n P N ds w0 W H ops rest ((dst,v)::σ) T) :
  bM F n P N ds w0 W H ops (⟨some dst,.call ⟨.value (.func f),args,ts⟩,ty,pos,aft,gd⟩::rest) σ T:=tN hw hv hdN (fun w _=>hc.h hcc w) h
theorem aBw(m:Nat){c:Code}(h:J N ds w0 W σ H (Code.roundsIn F n P c Q m)):J N ds w0 W σ H ((Code.loop c).wpIn F n P Q):=fun a w ha hw=>wpIn_loop_rounds m (h a w ha hw)
instance {c:Code}(m:Nat):CC (Code.roundsIn F n P c Q (m+1)) (c.wpIn F n P (Exit.then (Code.roundsIn F n P c Q m) Q)):=⟨fun h=>h⟩
end
section
variable {P:Program} {w0:World} {W:Nat→Prop} {H:List HE}
instance (priority:=2000) (t u:TypeId)(x y:Operand)(a:Bool)[aN P t .bool]:MS P w0 W H (.binOp .eql t x y u) [.bool a,.bool a] (.bool true) True:=⟨fun _ _ _ _ _ _ _ _ _ _ _ _ _ _ h1 h2 h3=>let ⟨p,q⟩:=dP h1;aMq p q h2 (by simpa using h3)⟩
instance (priority:=2000) (t u:TypeId)(x y:Operand)(a:Bool)[aN P t .bool]:MS P w0 W H (.binOp .neq t x y u) [.bool a,.bool a] (.bool false) True:=⟨fun _ _ _ _ _ _ _ _ _ _ _ _ _ _ h1 h2 h3=>let ⟨p,q⟩:=dP h1;aMt p q h2 (by simpa using h3)⟩
instance (priority:=10) (c x y:Operand)(u v:Value):LV P w0 W H (.pick c x y) [.bool true,u,v] u True:=⟨by
 rintro _ ρ ⟨dst,op',ty,pos,aft,gd⟩ rfl h w _;have h1:ρ c=.bool true∧ρ x=u∧ρ y=v:=by simpa [Op.operands] using h
 simp[execOp,h1.1,h1.2.1,asBool]⟩
instance (priority:=10) (c x y:Operand)(u v:Value):LV P w0 W H (.pick c x y) [.bool false,u,v] v True:=⟨by
 rintro _ ρ ⟨dst,op',ty,pos,aft,gd⟩ rfl h w _;have h1:ρ c=.bool false∧ρ x=u∧ρ y=v:=by simpa [Op.operands] using h
 simp[execOp,h1.1,h1.2.2,asBool]⟩
instance (priority:=60) (t u:TypeId)(x y:Operand)(k:IntKind)(a b:Int):LV P w0 W H (.binOp .quo t x y u) [.int k a,.int k b] (.int k (a/b)) (0≤a∧0<b∧bG k a):=⟨by
 rintro⟨h0,hb,hc⟩ ρ ⟨dst,op',ty,pos,aft,gd⟩ rfl h w _;obtain⟨h1,h2⟩:=sK h;have e:k.wrap (a.tdiv b)=a/b:=by rw[Int.tdiv_eq_ediv_of_nonneg h0,mJ];have h3:0≤a/b:=Int.ediv_nonneg h0 oo;have h4:a/b≤a:=Int.ediv_le_self _ h0;cases k<;>simp only[bG]at hc ⊢<;>omega
 simp[execOp,h1,h2,eqGuard,binOp,Op.intDiv,show b≠0 by omega,e]⟩
instance (priority:=60) (t u:TypeId)(x y:Operand)(k:IntKind)(a b:Int):LV P w0 W H (.binOp .rem t x y u) [.int k a,.int k b] (.int k (a%b)) (0≤a∧0<b):=⟨by rintro⟨h0,hb⟩ ρ ⟨dst,op',ty,pos,aft,gd⟩ rfl h w _;obtain⟨h1,h2⟩:=sK h;simp[execOp,h1,h2,eqGuard,binOp,Op.intDiv,show b≠0 by omega,Int.tmod_eq_emod_of_nonneg h0]⟩
instance (t u:TypeId)(x y:Operand)(p q:Bool)[hu:aN P t .bool]:LV P w0 W H (.binOp .eql t x y u) [.bool p,.bool q] (.bool (p==q)) True:=⟨by rintro _ ρ ⟨dst,op',ty,pos,aft,gd⟩ rfl h w _;obtain⟨h1,h2⟩:=sK h;have:=aN6 w p q hu.h;simp only[execOp,h1,h2,Sem.run_bind,aDh,Result.andThen_ok,this,Sem.run_pure]⟩
instance (t u:TypeId)(x y:Operand)(p q:Bool)[hu:aN P t .bool]:LV P w0 W H (.binOp .neq t x y u) [.bool p,.bool q] (.bool (!(p==q))) True:=⟨by rintro _ ρ ⟨dst,op',ty,pos,aft,gd⟩ rfl h w _;obtain⟨h1,h2⟩:=sK h;have:=aN9 w p q hu.h;simp only[execOp,h1,h2,Sem.run_bind,aDh,Result.andThen_ok,this,Sem.run_pure]⟩
theorem aVw{t e m bs i:Nat}{z:Value}{dd:TypeDesc}{x y:Operand}{vs:List Value}{v:Value}{k:IntKind}{a:Int}[hu:aN P t (.array m e)][hI:bF P e 1 bs z][he:aN P e dd](hd:oO dd=false)(ha:a=(i:Int))(hm:i<m)(hg:vs[i]? = some v):
  ∀(ρ:Operand→Value) (o:Oper),o.op=.index t x y→(Op.index t x y).operands.toList.map ρ=[.agg vs.toArray,.int k a]→∀w:World,(execOp ρ o).run P w=.ok (.value v) w:=by
 rintro ρ ⟨dst,op',ty,pos,aft,gd⟩ rfl h w;obtain⟨hx,hy⟩:=sK h;have h1:=hu.h;obtain⟨ii,h2,-,h3,-⟩:=hI.h;have h4:=he.h;have hagg:(isAgg e).run P w=.ok false w:=by unfold isAgg;rw[Sem.run_bind,run_underlying h4 w];cases dd<;>simp[oO]at hd<;>rfl
 subst ha;simp[execOp,hx,hy,Instr.index,run_underlying h1,asIntOf,sizeOf,typeInfo,h2,h3,hm,part,hagg,hg]
instance (t e m bs i:Nat)(z:Value)(dd:TypeDesc)(x y:Operand)(vs:List Value)(v:Value)(k:IntKind)(a:Int)[aN P t (.array m e)][bF P e 1 bs z][aN P e dd][hd:qJ dd][ha:vP a i][hg:dG vs i v]:MS P w0 W H (.index t x y) [.agg vs.toArray,.int k a] v (i<m) :=
 ⟨fun hi _ _ _ _ _ _ _ _ _ _ _ _ _ h1 h2 h3=>dW aE rfl h2 (fun a w ham _=>aVw (t:=t) (x:=x) (y:=y) (z:=z) (bs:=bs) (e:=e) (k:=k) hd.h ha.h hi hg.h a.eval _ rfl (by obtain⟨p,q⟩:=dP h1;simp[Op.operands,ham.eval p,ham.eval q]) w) h3⟩
end
section
variable {F:Fence} {n:Nat} {P:Program} {N:Nat} {ds:List Deferred} {w0:World} {W:Nat→Prop} {σ:List (Nat×Value)} {H:List HE} {Q:Exit→Act→World→Prop}
variable {ops:Array Oper} {rest:List Oper} {d:Nat} {ty:TypeId} {pos:String} {aft:Array Edge} {gd:Option (Nat×Bool)}
theorem uW[aU F]{t e m sz bs szt bst:Nat}{z ze:Value}{parts:Array (Nat×Operand)}{us:List (Nat×Value)}{cs:List Value}[hu:aN P t (.array m e)][hI:bF P t szt bst z][he:bF P e sz bs ze](hw:bT ops σ ⟨some d,.build t parts,ty,pos,aft,gd⟩=some true)(hv:qU σ parts.toList=some us)
  [hcs:zZ us cs] (hf:Instr.fill (fun i=>some (i*sz,sz)) z.cells us=some (us.flatMap (fun p=>p.2.cells.toList)).toArray) (hdN:Nat.blt d N=true)
  (h:J N ds w0 W ((d,.agg cs.toArray)::σ) H (wpListIn F n P ops Q rest)):J N ds w0 W σ H (wpListIn F n P ops Q (⟨some d,.build t parts,ty,pos,aft,gd⟩::rest)):=by
 refine jZ hw (dW aE rfl hdN (fun a w ha _=>?_) h);obtain⟨i,h3,h4,-⟩:=hI.h;obtain⟨j,h5,-,h6,-⟩:=he.h;have e1:(List.map (fun x:Nat×Operand=>match x with|(i,x)=>(i,a.eval x)) parts.toList)=us:=aCf ha hv;have hb:(Instr.build t (parts.map fun (i,x)=>(i,a.eval x))).run P w=.ok (.agg cs.toArray) w:=by
  unfold Instr.build;have hz:(zeroValue t).run P w=.ok z w:=by simp[zeroValue,typeInfo,h3,h4]
  have hs:(sizeOf e).run P w=.ok sz w:=by simp[sizeOf,typeInfo,h5,h6]
  simp only[Sem.run_bind,hz,Result.andThen_ok,run_underlying hu.h,hs,Array.toList_map,e1,hf,hcs.h,Sem.run_pure]
 simp only[execOp,Sem.run_bind,hb,Result.andThen_ok,Sem.run_pure]
end
class LdV(P:Program)(w0:World)(W:Nat→Prop)(H:List HE)(ty b q:Nat)(v:outParam Value):Prop where h:∀w,St w0 W H w→(loadVar ty ⟨b,q,none⟩).run P w=.ok v w
instance (priority:=100) (P:Program)(w0:World)(W:Nat→Prop)(H:List HE)(t tb b q sz bs:Nat)(z:Value)(dd:TypeDesc)(o cs:List Value)(k:HE→List HE)[aN P t dd][hd:gP dd][bF P t sz bs z][h:At b H tb cs k][hg:lL cs q sz o]:LdV P w0 W H t b q (.agg o.toArray) :=
 ⟨fun w hw=>by
  obtain⟨_,h4,_⟩:=h.h;have hr:dd.isRow=true:=by have:=hd.h;cases dd<;>simp_all [oO]
  exact run_loadVar_mid w b q t o dd (mO.cut h4 hg.h.1 w hw) (aN.h (P:=P) (t:=t)) hr (by rw[hg.h.2];exact bF.size)⟩
def oM(P:Program)(w0:World)(W:Nat→Prop)(H:List HE)(σ:List (Nat×Value)):List ResultVar→List Value→Prop
 | [],vs=>vs=[]
 | .tmp t::r,vs=>∃v us,vs=v::us∧aI σ t=some v∧oM P w0 W H σ r us
 | .cell t ty::r,vs=>∃v us b q,vs=v::us∧aI σ t=some (.pointer (some ⟨b,q,none⟩))∧(∀w,St w0 W H w→(loadVar ty ⟨b,q,none⟩).run P w=.ok v w)∧oM P w0 W H σ r us
def sU:List Value→Value
 | [v]=>v
 | vs=>.tuple vs.toArray
section
variable {P:Program} {N:Nat} {w0:World} {W:Nat→Prop} {σ:List (Nat×Value)} {H:List HE} {n:Nat}
theorem aZy{t:Nat}{v:Value}{r:List ResultVar}{us:List Value}(hv:aI σ t=some v)(h:oM P w0 W H σ r us):oM P w0 W H σ (.tmp t::r) (v::us):=⟨v,us,rfl,hv,h⟩
theorem aZx{t ty b q:Nat}{v:Value}{r:List ResultVar}{us:List Value}(hv:aI σ t=some (.pointer (some ⟨b,q,none⟩)))[hl:LdV P w0 W H ty b q v](h:oM P w0 W H σ r us):oM P w0 W H σ (.cell t ty::r) (v::us):=⟨v,us,b,q,rfl,hv,hl.h,h⟩
def aB4(tmps:Array Value):ResultVar→Sem Value
 | .tmp t=>pure (tmps.getD t undef)
 | .cell b t=>do loadVar t (← asAddr (tmps.getD b undef))
theorem oM.run{ds:List Deferred}{a:Act}{w:World}(ha:Tm N ds σ a)(hw:St w0 W H w):∀{rs:List ResultVar} {vs:List Value},oM P w0 W H σ rs vs→(rs.mapM (aB4 a.tmps)).run P w=Result.ok vs w
 | [],vs,h=>by rw[show vs=[]from h];rfl
 | .tmp t::r,_,⟨v,us,rfl,h1,h2⟩=>by
  have:=oM.run ha hw h2;rw[List.mapM_cons,Sem.run_bind];simp only[aB4,Sem.run_pure,Result.andThen_ok,Sem.run_bind,this,qV ha h1]
 | .cell t ty::r,_,⟨v,us,b,q,rfl,h1,h3,h2⟩=>by have:=oM.run ha hw h2;rw[List.mapM_cons,Sem.run_bind];simp only[aB4,Sem.run_bind,qV ha h1,asAddr,Sem.run_pure,Result.andThen_ok,h3 w hw,this]
theorem oM.all{ds:List Deferred}{a:Act}{w:World}{fn:Func}{rs:List ResultVar}{vs:List Value}(ha:Tm N ds σ a)(hw:St w0 W H w)(hres:fn.results=rs.toArray)(h:oM P w0 W H σ rs vs):(results fn a.tmps).run P w=.ok (sU vs) w:=by
 have h1:=h.run ha hw;have e:results fn a.tmps=(fn.results.mapM (aB4 a.tmps) >>= fun vs=>pure (if h:vs.size=1 then vs[0]else .tuple vs)):=by unfold results;congr 1
 rw[e,hres,Sem.run_bind,List.mapM_toArray];have h2:(List.toArray <$> rs.mapM (aB4 a.tmps)).run P w=.ok vs.toArray w:=by rw[map_eq_pure_bind,Sem.run_bind,h1];rfl
 rw[h2]
 match vs with
 | []=>rfl
 | [v]=>rfl
 | u::v::r=>simp[sU]
theorem aUy{fn:Func}{rs:List ResultVar}{vs:List Value}{S':List HE}{Rl:Value→List HE→Prop}[hres:bZ fn rs](hv:oM P w0 W H σ rs vs)(hs:aA S' H)(hR:Rl (sU vs) S'):J N [] w0 W σ H (bodyPost P fn (fun e w'=>∃v S',e=.returned v∧Rl v S'∧St w0 W S' w') .ret) :=
 fun a w ha hw=>⟨ha.defers,_,hv.all ha hw hres.h,_,S',rfl,hR,hw.sub hs⟩
def xJ(P:Program)(w0:World)(W:Nat→Prop)(H:List HE)(σ:List (Nat×Value))(rs:List ResultVar)(K:List Value→Prop):Prop:=∃vs,oM P w0 W H σ rs vs∧K vs
theorem aKx{K:List Value→Prop}(h:K []):xJ P w0 W H σ [] K:=⟨[],rfl,h⟩
theorem aKy{K:List Value→Prop}{t:Nat}{v:Value}{r:List ResultVar}(hv:aI σ t=some v)(h:xJ P w0 W H σ r fun us=>K (v::us)):xJ P w0 W H σ (.tmp t::r) K:=let ⟨us,h1,h2⟩:=h;⟨v::us,aZy hv h1,h2⟩
theorem aKw{K:List Value→Prop}{t ty b q:Nat}{v:Value}{r:List ResultVar}(hv:aI σ t=some (.pointer (some ⟨b,q,none⟩)))[hl:LdV P w0 W H ty b q v](h:xJ P w0 W H σ r fun us=>K (v::us)):xJ P w0 W H σ (.cell t ty::r) K:=let ⟨us,h1,h2⟩:=h;⟨v::us,aZx hv h1,h2⟩
theorem eC{fn:Func}{rs:List ResultVar}{S':List HE}{Rl:Value→List HE→Prop}[hres:bZ fn rs](hs:aA S' H)(h:xJ P w0 W H σ rs fun vs=>Rl (sU vs) S'):J N [] w0 W σ H (bodyPost P fn (fun e w'=>∃v S',e=.returned v∧Rl v S'∧St w0 W S' w') .ret) :=
 let ⟨_,h1,h2⟩:=h
 aUy h1 hs h2
theorem qW{fn:Func}{rs:List ResultVar}{Ds:List Nat}{S' S S2:List HE}{Rl:Value→List HE→Prop}[hres:bZ fn rs](hs:aA (S2++vA Ds) H)(hs2:aA S' S2)(h:xJ P w0 (bB S) S2 σ rs fun vs=>Rl (sU vs) S'):J N (marks Ds) w0 (bB S) σ H (bodyPostM Fence.wide n P fn (nZ S w0 Rl) .ret):=fun a w ha hw=>by obtain⟨vs,h1,h2⟩:=h;have:=aCt (n:=n) (P:=P) (fn:=fn) (Rr:=nZ S w0 Rl) (tmps:=a.tmps) (fun w' hw'=>⟨_,h1.all ha hw' hres.h,_,S',rfl,h2,hw'.sub hs2⟩) Ds w (hw.sub hs);show LeavesInM _ _ _ _ _ _ a.defers _ _;rw[ha.defers];exact this
end
section
variable {F:Fence} {n:Nat} {P:Program} {N:Nat} {ds:List Deferred} {w0:World} {W:Nat→Prop} {σ:List (Nat×Value)} {H:List HE} {T:List (Nat×Value)→Prop}
variable {ops:Array Oper} {rest:List Oper} {d:Nat} {ty:TypeId} {pos:String} {aft:Array Edge} {gd:Option (Nat×Bool)}
theorem hbd[aU F]{t sz bs:Nat}{z:Value}{pl:List (Nat×Nat)}{parts:Array (Nat×Operand)}{us:List (Nat×Value)}{zs cs:List Value}[Pl P t pl][bF P t sz bs z](hw:bT ops σ ⟨some d,.build t parts,ty,pos,aft,gd⟩=some true)(hv:qU σ parts.toList=some us)
  [hz:ZC z zs] [hl:yQ pl zs us cs] (hf:Instr.fill (pl.toArray[·]?) z.cells us=some (wH pl z.cells.toList us).toArray) (hdN:Nat.blt d N=true)
  (h:bM F n P N ds w0 W H ops rest ((d,.agg cs.toArray)::σ) T):bM F n P N ds w0 W H ops (⟨some d,.build t parts,ty,pos,aft,gd⟩::rest) σ T :=
 xV rfl hdN hw (fun _ _ hk=>aMo hv (by rw[hz.h];exact hl.h) hf hdN hk) h
end
class zX(l:Nat)(H:List HE)(N:outParam Nat)(σ:outParam (List (Nat×Value)))(ps:outParam (Array Tmp))(assign body:outParam Code)(st:outParam LoopState)(pend:outParam (Option Code))(R:outParam (List HE)):Prop where h:aP H (.loop l N σ ps assign body st pend) R
instance (priority:=100) (l N:Nat)(σ:List (Nat×Value))(ps:Array Tmp)(assign body:Code)(st:LoopState)(pend:Option Code)(r:List HE):zX l (.loop l N σ ps assign body st pend::r) N σ ps assign body st pend r:=⟨.here _ _⟩
instance (priority:=10) (l N:Nat)(σ:List (Nat×Value))(ps:Array Tmp)(assign body:Code)(st:LoopState)(pend:Option Code)(y:HE)(r R:List HE)[h:zX l r N σ ps assign body st pend R]:zX l (y::r) N σ ps assign body st pend (y::R):=⟨.there y h.h⟩
theorem aA.of_has{H R:List HE}{x:HE}(h:aP H x R):aA (x::R) H:=.cons h (aA.refl R)
section
variable {F:Fence} {n:Nat} {P:Program} {N:Nat} {ds:List Deferred} {w0:World} {W:Nat→Prop} {σ:List (Nat×Value)} {H R:List HE} {Q:Exit→Act→World→Prop}
variable {l Nr:Nat} {σr:List (Nat×Value)} {ps:Array Tmp} {assign body:Code} {st:LoopState} {pend:Option Code} {S' S:List HE} {Rl:Value→List HE→Prop}
theorem tG{c:Code}[hl:zX l H Nr σr ps assign body .ready pend R](h:J N ds w0 W σ (.loop l Nr σr ps assign body .busy pend::R) (c.wpIn F n P Q)):
  J N ds w0 W σ H (fun a₁ w₁=>∃w₂,(Instr.beginRound l).run P w₁=.ok () w₂∧c.wpIn F n P Q a₁ w₂):=jP (aA.of_has hl.h) (aEl h)
theorem qO[hl:zX l H Nr σr ps assign body st pend R](hs:aA S' (.loop l Nr σr ps assign body .ready none::R))(hR:Rl (.bool true) S'):J N ds w0 (bB S) σ H (roundPost P l (nZ S w0 Rl) .normal):=jP (aA.of_has hl.h) (aEn hs hR)
end
instance (priority:=5) {P:Program}{w0:World}{W:Nat→Prop}{H:List HE}(c x y:Operand)(b v:Bool):LV P w0 W H (.pick c x y) [.bool b,.bool true,.bool v] (.bool (b||v)) True:=⟨by
 rintro _ ρ ⟨dst,op',ty,pos,aft,gd⟩ rfl h w _;have h1:ρ c=.bool b∧ρ x=.bool true∧ρ y=.bool v:=by simpa [Op.operands] using h
 cases b<;>simp[execOp,h1.1,h1.2.1,h1.2.2,asBool]⟩
def aGj(ops:Array Oper)(mask:List Bool)(rest:List Nat)(i d:Nat)(o:Oper):Bool :=
 rest.contains i&&((List.range ops.size).all fun j=>match ops[j]? with
  | none=>true
  | some o'=>gK o'&&(Nat.beq j i||(o'.dst != some d&&(!(o'.looksAt ops).contains d||cN ops j i)))) &&
 rest.all fun j=>(!eN ops mask j||eN ops mask i)&&(match cW ops j with|some t=>!(o.looksAt ops).contains t|none=>true)
theorem bC8{σ:List (Nat×Value)}{ρ:Operand→Value}: ∀{l:List Operand} {vs:List Value},vals σ l=some vs→(∀x∈l,∀u,ev σ x=some u→ρ x=u)→l.map ρ=vs:=by
 intro l
 induction l with
 | nil=>intro vs hv _;simp[vals]at hv;simp[hv]
 | cons x r ih =>
  intro vs hv h;simp only[vals]at hv;cases hx:ev σ x with
  | none=>simp[hx]at hv
  | some u =>
   cases hr:vals σ r with
   | none=>simp[hx,hr]at hv
   | some us =>
    simp[hx,hr]at hv;subst hv;rw[List.map_cons,h x (List.mem_cons_self ..) u hx,ih hr fun y hy=>h y (List.mem_cons_of_mem _ hy)]
theorem aGo(a:Act)(d:Nat)(v:Value)(e:Option Nat)(u:Value)(h:e≠some d):(a.put e u).put (some d) v=(a.put (some d) v).put e u:=by
 cases e with
 | none=>rfl
 | some t =>
  simp only[Act.put];congr 1;exact Array.setIfInBounds_comm _ _ (fun e=>h (by rw[e]))
theorem aMk{F:Fence}{n:Nat}{P:Program}{w0:World}{W:Nat→Prop}{HL:List HE}{Q:Exit→Act→World→Prop}{ops:Array Oper}{mask:List Bool}[hF:aU F]{i d:Nat}{o:Oper}{v:Value}{L:Nat→Option Value}
  (hio:ops[i]? = some o) (hd:o.dst=some d)
  (hpl:∀(j:Nat) (o':Oper),ops[j]? = some o'→gK o'=true)
  (hoth:∀(j:Nat) (o':Oper),j≠i→ops[j]? = some o'→o'.dst≠some d∧(d∈o'.looksAt ops→cN ops j i=true))
  (hval:∀a:Act,(∀t∈o.looksAt ops,∀u,L t=some u→a.tmps[t]? = some u)→Region.wanted o (yielded ops a.tmps)=true∧∀w,(execOp a.eval o).run P w=.ok (.value v) w) :
  ∀(m:Nat) (rest:List Nat) (a:Act) (w:World),i∈rest→rest.length≤m+1→(∀j∈rest,eN ops mask j=true→eN ops mask i=true)→(∀j∈rest,∀t,cW ops j=some t→t ∉ o.looksAt ops)→(eN ops mask i=true∨St w0 W HL w) →
   (∀t∈o.looksAt ops,∀u,L t=some u→a.tmps[t]? = some u)→cC F n P w0 W HL ops mask Q m (rest.erase i) (a.put (some d) v) w→cC F n P w0 W HL ops mask Q (m+1) rest a w:=by
 have hnd:∀(j:Nat) (o':Oper),ops[j]? = some o'→∀c,o'.op≠.defer c:=by intro j o' h c e;have:=hpl j o' h;unfold gK at this;rw[e]at this;cases this
 intro m
 induction m with
 | zero =>
  intro rest a w hi hlen hlit hdst hst ha h;refine⟨fun e=>(by rw[e]at hi;cases hi),fun j hj hr=>?_⟩;have hji:j=i:=by
   match rest,hlen,hi,hj with
   | [x],_,hi,hj=>rw[List.mem_singleton.1 hi,List.mem_singleton.1 hj]
  subst hji;have hopsAt:cQ ops [j]=[o]:=by simp[cQ,hio]
  rw[hopsAt];obtain⟨hw1,hw2⟩:=hval a ha;simp only[wpListIn];rw[if_pos hw1];refine⟨fun f _=>hF.out.fn f,?_⟩;rw[Oper.semAt_plain F _ _ (hnd j o hio),hw2 w,Oper.uponIn_value,hd];exact⟨hst,h⟩
 | succ m ih =>
  intro rest a w hi hlen hlit hdst hst ha h;refine⟨fun e=>(by rw[e]at hi;cases hi),fun j hj hr=>?_⟩;by_cases hji:j=i
  ·subst hji;have hopsAt:cQ ops [j]=[o]:=by simp[cQ,hio]
   rw[hopsAt];obtain⟨hw1,hw2⟩:=hval a ha;simp only[wpListIn];rw[if_pos hw1];refine⟨fun f _=>hF.out.fn f,?_⟩;rw[Oper.semAt_plain F _ _ (hnd j o hio),hw2 w,Oper.uponIn_value,hd];exact⟨hst,h⟩
  ·have hwp:=h.2 j ((List.mem_erase_of_ne hji).2 hj) (fun k hk=>hr k (List.mem_of_mem_erase hk));cases hjo:ops[j]? with
   | none =>
    have hopsAt:cQ ops [j]=[]:=by simp[cQ,hjo]
    rw[hopsAt]at hwp ⊢;obtain⟨hob,hwp⟩:=hwp;refine⟨hob,ih (rest.erase j) a w ((List.mem_erase_of_ne (fun e=>hji e.symm)).2 hi) (by have:=List.length_erase_of_mem hj;omega) (fun k hk=>hlit k (List.mem_of_mem_erase hk)) (fun k hk=>hdst k (List.mem_of_mem_erase hk)) hst ha ?_⟩;have:=hwp;rw[List.erase_comm]at this;exact this
   | some o' =>
    have hopsAt:cQ ops [j]=[o']:=by simp[cQ,hjo]
    rw[hopsAt]at hwp ⊢;obtain⟨hne,hlk⟩:=hoth j o' hji hjo;have hnl:d ∉ o'.looksAt ops:=fun hm=>by have:=hr i hi;rw[hlk hm]at this;cases this
    have hagree:∀t∈o'.looksAt ops,a.tmps[t]? = (a.put (some d) v).tmps[t]?:=by intro t ht;simp only[Act.put,Array.getElem?_setIfInBounds];rw[if_neg (fun e=>hnl (by rw[e];exact ht))]
    have hwt:Region.wanted o' (yielded ops a.tmps)=Region.wanted o' (yielded ops (a.put (some d) v).tmps):=by
     unfold Region.wanted;cases hg:o'.guard with
     | none=>rfl
     | some g =>
      obtain⟨j',c⟩:=g;simp only[yielded];cases hj:(ops[j']?).bind (·.dst) with
      | none=>rfl
      | some t =>
       have:t∈o'.looksAt ops:=by unfold Oper.looksAt;rw[hg];exact List.mem_append_right _ (by simp[hj])
       simp only[Option.bind_some,hagree t this]
    have hev:execOp a.eval o'=execOp (a.put (some d) v).eval o':=by
     refine execOp_congr o' (fun cs c e=>?_) fun x hx=>yZ fun t e=>?_
     ·have:=hpl j o' hjo;unfold gK at this;rw[e]at this;cases this
     ·subst e;exact hagree t (List.mem_append_left _ (List.mem_filterMap.2 ⟨.tmp t,by simpa using hx,rfl⟩))
    have hnext:∀(ds:List Deferred) (u:Value) (w':World),wpListIn F n P ops (nq fun _ b'' w''=>(eN ops mask j=true∨St w0 W HL w'')∧cC F n P w0 W HL ops mask Q m ((rest.erase i).erase j) b'' w'') [] (({ (a.put (some d) v) with defers:=ds }:Act).put o'.dst u) w' →
      wpListIn F n P ops (nq fun _ b'' w''=>(eN ops mask j=true∨St w0 W HL w'')∧cC F n P w0 W HL ops mask Q (m+1) (rest.erase j) b'' w'') [] (({ a with defers:=ds }:Act).put o'.dst u) w':=by
     intro ds u w' hh;obtain⟨h1,h2⟩:=hh;have hst':eN ops mask i=true∨St w0 W HL w':=h1.imp (hlit j hj) id;refine⟨h1,ih (rest.erase j) _ w' ((List.mem_erase_of_ne (fun e=>hji e.symm)).2 hi) (by have:=List.length_erase_of_mem hj;omega) (fun k hk=>hlit k (List.mem_of_mem_erase hk)) (fun k hk=>hdst k (List.mem_of_mem_erase hk)) hst' (fun t ht u' hu'=>?_) ?_⟩
     ·cases hdj:o'.dst with
      | none=>exact ha t ht u' hu'
      | some e =>
       have hne2:e≠t:=fun hh=>hdst j hj e (by simp[cW,hjo,hdj]) (by rw[hh];exact ht);simp only[Act.put,Array.getElem?_setIfInBounds];rw[if_neg hne2];exact ha t ht u' hu'
     ·rw[List.erase_comm,aGo _ _ _ _ _ hne];exact h2
    simp only[wpListIn]at hwp ⊢;rw[hwt];by_cases hw:Region.wanted o' (yielded ops (a.put (some d) v).tmps)=true
    ·rw[if_pos hw]at hwp ⊢;refine⟨fun f _=>hF.out.fn f,?_⟩;have h2:=hwp.2;rw[Oper.semAt_plain F _ _ (hnd j o' hjo),← hev]at h2;rw[Oper.semAt_plain F _ _ (hnd j o' hjo)];exact wX h2 (fun u w' hh=>hnext a.defers u w' hh) (fun x w' hh=>hnext (x::a.defers) undef w' hh)
    ·rw[if_neg hw]at hwp ⊢;exact⟨fun f _=>hF.out.fn f,hnext a.defers undef w hwp.2⟩
theorem aOv{F:Fence}{n:Nat}{P:Program}{w0:World}{W:Nat→Prop}{HL:List HE}{Q:Exit→Act→World→Prop}{ops:Array Oper}{mask mask':List Bool}(hm:∀i,eN ops mask' i=true→eN ops mask i=true):
  ∀(m:Nat) (rest:List Nat) (b:Act) (w:World),cC F n P w0 W HL ops mask' Q m rest b w→cC F n P w0 W HL ops mask Q m rest b w:=by
 intro m
 induction m with
 | zero=>intro rest b w h;exact h
 | succ m ih =>
  intro rest b w h;refine⟨h.1,fun j hj hr=>?_⟩;have hwp:=h.2 j hj hr;cases hjo:ops[j]? with
  | none =>
   have hopsAt:cQ ops [j]=[]:=by simp[cQ,hjo]
   rw[hopsAt]at hwp ⊢;exact⟨hwp.1.imp (hm j) id,ih _ _ _ hwp.2⟩
  | some o' =>
   have hopsAt:cQ ops [j]=[o']:=by simp[cQ,hjo]
   rw[hopsAt]at hwp ⊢;have hnext:∀(c:Act) (w':World),wpListIn F n P ops (nq fun _ b'' w''=>(eN ops mask' j=true∨St w0 W HL w'')∧cC F n P w0 W HL ops mask' Q m (rest.erase j) b'' w'') [] c w' →
     wpListIn F n P ops (nq fun _ b'' w''=>(eN ops mask j=true∨St w0 W HL w'')∧cC F n P w0 W HL ops mask Q m (rest.erase j) b'' w'') [] c w':=fun c w' hh=>⟨hh.1.imp (hm j) id,ih _ _ _ hh.2⟩
   simp only[wpListIn]at hwp ⊢;by_cases hw:Region.wanted o' (yielded ops b.tmps)=true
   ·rw[if_pos hw]at hwp ⊢;exact⟨hwp.1,wX hwp.2 (fun u w' hh=>hnext _ w' hh) (fun x w' hh=>hnext _ w' hh)⟩
   ·rw[if_neg hw]at hwp ⊢;exact⟨hwp.1,hnext _ w hwp.2⟩
section
variable {F:Fence} {n:Nat} {P:Program} {N:Nat} {ds:List Deferred} {w0:World} {W:Nat→Prop} {σ:List (Nat×Value)} {H HL:List HE} {Q:Exit→Act→World→Prop} {ops:Array Oper} {mask:List Bool} {m:Nat} {rest:List Nat}
theorem aVo{ops:Array Oper}{mask:List Bool}(k:Nat)(hk:Nat.ble ops.size k=true)(i:Nat)(h:eN ops (List.replicate k true) i=true):eN ops mask i=true:=by
 unfold eN at h ⊢;refine List.all_eq_true.2 fun j hj=>?_;have h1:=List.all_eq_true.1 h j hj;have h2:bY (List.replicate k true) j=true:=by unfold bY;have:=List.mem_range.1 hj;have:=Nat.le_of_ble_eq_true hk;rw[List.getD_eq_getElem?_getD,List.getElem?_replicate,if_pos oo];rfl
 rw[h2]at h1;rw[show cN ops i j=true by simpa using h1];simp
theorem aO8(k:Nat)(hk:Nat.ble ops.size k=true)(h:J N ds w0 W σ H (cC F n P w0 W HL ops (List.replicate k true) Q m rest)):J N ds w0 W σ H (cC F n P w0 W HL ops mask Q m rest) :=
 fun a w ha hw=>aOv (fun i hi=>aVo k hk i hi) m rest a w (h a w ha hw)
theorem bBe(i:Nat){d:Nat}{op:Op}{ty:TypeId}{pos:String}{aft:Array Edge}{gd:Option (Nat×Bool)}{vs:List Value}{v:Value}{c:Prop}[hF:aU F](hio:ops.toList[i]? = some ⟨some d,op,ty,pos,aft,gd⟩)(hok:aGj ops mask rest i d ⟨some d,op,ty,pos,aft,gd⟩=true)(hlen:Nat.ble rest.length (m+1)=true)
  (hw:bT ops σ ⟨some d,op,ty,pos,aft,gd⟩=some true) (hv:vals σ op.operands.toList=some vs) [hp:PV P op vs v c] (hc:c) (hdN:Nat.blt d N=true) (hs:aA HL H)
  (h:J N ds w0 W ((d,v)::σ) H (cC F n P w0 W HL ops mask Q m (rest.erase i))):J N ds w0 W σ H (cC F n P w0 W HL ops mask Q (m+1) rest):=by
 intro a w ha hst;rw[Array.getElem?_toList]at hio;generalize ho:(⟨some d,op,ty,pos,aft,gd⟩:Oper)=o at *;have hd:o.dst=some d:=by rw[← ho]
 have hop:o.op=op:=by rw[← ho]
 unfold aGj at hok;simp only[Bool.and_eq_true]at hok;obtain⟨⟨hin,hall⟩,hrest⟩:=hok;have hq:∀ρ:Operand→Value,(∀x∈o.op.operands.toList,∀u,ev σ x=some u→ρ x=u)→∀w,(execOp ρ o).run P w=.ok (.value v) w:=by subst ho;intro ρ h w;exact hp.h hc ρ _ rfl (bC8 hv h) w
 have hper:∀(j:Nat) (o':Oper),ops[j]? = some o'→gK o'=true∧(j≠i→o'.dst≠some d∧(d∈o'.looksAt ops→cN ops j i=true)):=by
  intro j o' hj;have h1:=List.all_eq_true.1 hall j (List.mem_range.2 (Array.getElem?_eq_some_iff.1 hj).1);rw[hj]at h1;simp only[Bool.and_eq_true]at h1;refine⟨h1.1,fun hne=>?_⟩;have h2:=h1.2;have e2:Nat.beq j i=false:=by
   cases hb:Nat.beq j i with
   | false=>rfl
   | true=>exact absurd (Nat.eq_of_beq_eq_true hb) hne
  rw[e2]at h2;simp only[Bool.false_or,Bool.and_eq_true]at h2;refine⟨by simpa using h2.1,fun hm=>?_⟩;have h3:=h2.2;have e3:(o'.looksAt ops).contains d=true:=by simpa using hm
  rw[e3]at h3;simpa using h3
 refine aMk (L:=aI σ) hio hd (fun j o' hj=>(hper j o' hj).1) (fun j o' hne hj=>(hper j o' hj).2 hne) (fun a' ha'=>⟨vL ha' hw,fun w'=>hq _ (fun x hx u hu=>?_) w'⟩) m rest a w (by simpa using hin) (Nat.le_of_ble_eq_true hlen) (fun j hj hlt=>?_) (fun j hj t ht hm=>?_) (.inr (hst.sub hs)) (fun t _ u hu=>ha.at_ t u hu) ?_
 ·cases x with
  | tmp t =>
   have:=ha' t (List.mem_append_left _ (List.mem_filterMap.2 ⟨.tmp t,hx,rfl⟩)) u hu;simp[Act.eval,this]
  | const u=>simpa [ev,Act.eval] using hu
  | global g=>simpa [ev,Act.eval] using hu
  | func f=>simpa [ev,Act.eval] using hu
 ·have:=List.all_eq_true.1 hrest j hj;simp only[Bool.and_eq_true]at this;have h1:=this.1;rw[hlt]at h1;simpa using h1
 ·have:=List.all_eq_true.1 hrest j hj;simp only[Bool.and_eq_true]at this;have h2:=this.2;simp[ht,hm]at h2
 ·exact h _ _ (ha.put d v (by simpa using hdN)) hst
end
theorem aVs{F:Fence}{n:Nat}{P:Program}{w0:World}{W:Nat→Prop}{HL:List HE}{Q:Exit→Act→World→Prop}{ops:Array Oper}{mask:List Bool}[hF:aU F]{i d:Nat}{o:Oper}{v:Value}{L:Nat→Option Value}
  (hio:ops[i]? = some o) (hd:o.dst=some d)
  (hpl:∀(j:Nat) (o':Oper),ops[j]? = some o'→gK o'=true)
  (hoth:∀(j:Nat) (o':Oper),j≠i→ops[j]? = some o'→o'.dst≠some d∧(d∈o'.looksAt ops→cN ops j i=true))
  (hval:∀a:Act,(∀t∈o.looksAt ops,∀u,L t=some u→a.tmps[t]? = some u)→(Region.wanted o (yielded ops a.tmps)=true∧∀w,St w0 W HL w→(execOp a.eval o).run P w=.ok (.value v) w)∨(Region.wanted o (yielded ops a.tmps)=false∧v=undef)) :
  ∀(m:Nat) (rest:List Nat) (a:Act) (w:World),i∈rest→rest.length≤m+1→(∀j∈rest,eN ops mask j=false)→(∀j∈rest,∀t,cW ops j=some t→t ∉ o.looksAt ops)→St w0 W HL w →
   (∀t∈o.looksAt ops,∀u,L t=some u→a.tmps[t]? = some u)→cC F n P w0 W HL ops mask Q m (rest.erase i) (a.put (some d) v) w→cC F n P w0 W HL ops mask Q (m+1) rest a w:=by
 have hnd:∀(j:Nat) (o':Oper),ops[j]? = some o'→∀c,o'.op≠.defer c:=by intro j o' h c e;have:=hpl j o' h;unfold gK at this;rw[e]at this;cases this
 have hme:∀(m:Nat) (rest:List Nat) (a:Act) (w:World),St w0 W HL w→(∀t∈o.looksAt ops,∀u,L t=some u→a.tmps[t]? = some u)→cC F n P w0 W HL ops mask Q m (rest.erase i) (a.put (some d) v) w →
   wpListIn F n P ops (nq fun _ b' w'=>(eN ops mask i=true∨St w0 W HL w')∧cC F n P w0 W HL ops mask Q m (rest.erase i) b' w') [o] a w:=by
  intro m rest a w hst ha h;simp only[wpListIn];rcases hval a ha with⟨hw1,hw2⟩ | ⟨hw1,hw2⟩
  ·rw[if_pos hw1];refine⟨fun f _=>hF.out.fn f,?_⟩;rw[Oper.semAt_plain F _ _ (hnd i o hio),hw2 w hst,Oper.uponIn_value,hd];exact⟨.inr hst,h⟩
  ·rw[if_neg (by rw[hw1];simp)];refine⟨fun f _=>hF.out.fn f,?_⟩;rw[hd];subst hw2;exact⟨.inr hst,h⟩
 intro m
 induction m with
 | zero =>
  intro rest a w hi hlen hlit hdst hst ha h;refine⟨fun e=>(by rw[e]at hi;cases hi),fun j hj hr=>?_⟩;have hji:j=i:=by
   match rest,hlen,hi,hj with
   | [x],_,hi,hj=>rw[List.mem_singleton.1 hi,List.mem_singleton.1 hj]
  subst hji;have hopsAt:cQ ops [j]=[o]:=by simp[cQ,hio]
  rw[hopsAt];exact hme 0 rest a w hst ha h
 | succ m ih =>
  intro rest a w hi hlen hlit hdst hst ha h;refine⟨fun e=>(by rw[e]at hi;cases hi),fun j hj hr=>?_⟩;by_cases hji:j=i
  ·subst hji;have hopsAt:cQ ops [j]=[o]:=by simp[cQ,hio]
   rw[hopsAt];exact hme (m+1) rest a w hst ha h
  ·have hwp:=h.2 j ((List.mem_erase_of_ne hji).2 hj) (fun k hk=>hr k (List.mem_of_mem_erase hk));cases hjo:ops[j]? with
   | none =>
    have hopsAt:cQ ops [j]=[]:=by simp[cQ,hjo]
    rw[hopsAt]at hwp ⊢;obtain⟨hob,hwp⟩:=hwp;refine⟨hob,ih (rest.erase j) a w ((List.mem_erase_of_ne (fun e=>hji e.symm)).2 hi) (by have:=List.length_erase_of_mem hj;omega) (fun k hk=>hlit k (List.mem_of_mem_erase hk)) (fun k hk=>hdst k (List.mem_of_mem_erase hk)) hst ha ?_⟩;have:=hwp;rw[List.erase_comm]at this;exact this
   | some o' =>
    have hopsAt:cQ ops [j]=[o']:=by simp[cQ,hjo]
    rw[hopsAt]at hwp ⊢;obtain⟨hne,hlk⟩:=hoth j o' hji hjo;have hnl:d ∉ o'.looksAt ops:=fun hm=>by have:=hr i hi;rw[hlk hm]at this;cases this
    have hagree:∀t∈o'.looksAt ops,a.tmps[t]? = (a.put (some d) v).tmps[t]?:=by intro t ht;simp only[Act.put,Array.getElem?_setIfInBounds];rw[if_neg (fun e=>hnl (by rw[e];exact ht))]
    have hwt:Region.wanted o' (yielded ops a.tmps)=Region.wanted o' (yielded ops (a.put (some d) v).tmps):=by
     unfold Region.wanted;cases hg:o'.guard with
     | none=>rfl
     | some g =>
      obtain⟨j',c⟩:=g;simp only[yielded];cases hj:(ops[j']?).bind (·.dst) with
      | none=>rfl
      | some t =>
       have:t∈o'.looksAt ops:=by unfold Oper.looksAt;rw[hg];exact List.mem_append_right _ (by simp[hj])
       simp only[Option.bind_some,hagree t this]
    have hev:execOp a.eval o'=execOp (a.put (some d) v).eval o':=by
     refine execOp_congr o' (fun cs c e=>?_) fun x hx=>yZ fun t e=>?_
     ·have:=hpl j o' hjo;unfold gK at this;rw[e]at this;cases this
     ·subst e;exact hagree t (List.mem_append_left _ (List.mem_filterMap.2 ⟨.tmp t,by simpa using hx,rfl⟩))
    have hnext:∀(ds:List Deferred) (u:Value) (w':World),wpListIn F n P ops (nq fun _ b'' w''=>(eN ops mask j=true∨St w0 W HL w'')∧cC F n P w0 W HL ops mask Q m ((rest.erase i).erase j) b'' w'') [] (({ (a.put (some d) v) with defers:=ds }:Act).put o'.dst u) w' →
      wpListIn F n P ops (nq fun _ b'' w''=>(eN ops mask j=true∨St w0 W HL w'')∧cC F n P w0 W HL ops mask Q (m+1) (rest.erase j) b'' w'') [] (({ a with defers:=ds }:Act).put o'.dst u) w':=by
     intro ds u w' hh;obtain⟨h1,h2⟩:=hh;have hst':St w0 W HL w':=by
      rcases h1 with h1|h1
      ·rw[hlit j hj]at h1;cases h1
      ·exact h1
     refine⟨h1,ih (rest.erase j) _ w' ((List.mem_erase_of_ne (fun e=>hji e.symm)).2 hi) (by have:=List.length_erase_of_mem hj;omega) (fun k hk=>hlit k (List.mem_of_mem_erase hk)) (fun k hk=>hdst k (List.mem_of_mem_erase hk)) hst' (fun t ht u' hu'=>?_) ?_⟩
     ·cases hdj:o'.dst with
      | none=>exact ha t ht u' hu'
      | some e =>
       have hne2:e≠t:=fun hh=>hdst j hj e (by simp[cW,hjo,hdj]) (by rw[hh];exact ht);simp only[Act.put,Array.getElem?_setIfInBounds];rw[if_neg hne2];exact ha t ht u' hu'
     ·rw[List.erase_comm,aGo _ _ _ _ _ hne];exact h2
    simp only[wpListIn]at hwp ⊢;rw[hwt];by_cases hw:Region.wanted o' (yielded ops (a.put (some d) v).tmps)=true
    ·rw[if_pos hw]at hwp ⊢;refine⟨fun f _=>hF.out.fn f,?_⟩;have h2:=hwp.2;rw[Oper.semAt_plain F _ _ (hnd j o' hjo),← hev]at h2;rw[Oper.semAt_plain F _ _ (hnd j o' hjo)];exact wX h2 (fun u w' hh=>hnext a.defers u w' hh) (fun x w' hh=>hnext (x::a.defers) undef w' hh)
    ·rw[if_neg hw]at hwp ⊢;exact⟨fun f _=>hF.out.fn f,hnext a.defers undef w hwp.2⟩
class xD(l:List Nat)(k:Nat)(r:outParam (List Nat)):Prop where h:l.eraseIdx k=r
instance (x:Nat)(r:List Nat):xD (x::r) 0 r:=⟨rfl⟩
instance (x k:Nat)(r r':List Nat)[h:xD r k r']:xD (x::r) (k+1) (x::r'):=⟨by rw[List.eraseIdx_cons_succ,h.h]⟩
theorem xR(i:Nat)(r:List Nat):(i::r).erase i=r:=by simp
theorem xS{j i:Nat}{r r':List Nat}(hne:Nat.beq j i=false)(h:r.erase i=r'):(j::r).erase i=j::r':=by
 rw[List.erase_cons];have:(j==i)=false:=by simp only[beq_eq_false_iff_ne];intro e;rw[e]at hne;simp at hne
 rw[this];simp[h]
def wR(ops:Array Oper):Bool:=(List.range ops.size).all fun i=>match ops[i]? with
 | none=>true
 | some o=>gK o&&(!cN ops i i)&&(match o.dst with|none=>true|some d=>(!(o.looksAt ops).contains d) &&
   ((List.range ops.size).all fun j=>Nat.beq j i||(match ops[j]? with|none=>true|some o'=>o'.dst != some d&&(!(o'.looksAt ops).contains d||cN ops j i))))
class mA(ops:Array Oper):Prop where
 ok:wR ops=true
 few:ops.size≤300
def aB7(rest:List Nat)(aft:Array Edge):Bool:=rest.all fun j=>!(aft.any fun e=>Region.binds .any e&&e.on==j)
section
variable {F:Fence} {n:Nat} {P:Program} {N:Nat} {ds:List Deferred} {w0:World} {W:Nat→Prop} {σ:List (Nat×Value)} {H HL:List HE} {Q:Exit→Act→World→Prop} {ops:Array Oper} {m:Nat} {rest rest':List Nat}
theorem mA.at_(h:mA ops){i:Nat}{o:Oper}(hi:ops[i]? = some o):gK o=true∧cN ops i i=false∧∀d,o.dst=some d→d ∉ o.looksAt ops∧∀j o',j≠i→ops[j]? = some o'→o'.dst≠some d∧(d∈o'.looksAt ops→cN ops j i=true):=by
 have h1:=List.all_eq_true.1 h.ok i (List.mem_range.2 (Array.getElem?_eq_some_iff.1 hi).1);rw[hi]at h1;simp only[Bool.and_eq_true]at h1;obtain⟨⟨h1,h2⟩,h3⟩:=h1;refine⟨h1,by simpa using h2,fun d hd=>?_⟩;rw[hd]at h3;simp only[Bool.and_eq_true]at h3;obtain⟨h3,h4⟩:=h3;refine⟨by simpa using h3,fun j o' hne hj=>?_⟩;have h5:=List.all_eq_true.1 h4 j (List.mem_range.2 (Array.getElem?_eq_some_iff.1 hj).1);rw[hj]at h5;have e:Nat.beq j i=false:=by
  cases hb:Nat.beq j i with
  | false=>rfl
  | true=>exact absurd (Nat.eq_of_beq_eq_true hb) hne
 rw[e]at h5;simp only[Bool.false_or,Bool.and_eq_true]at h5;refine⟨by simpa using h5.1,fun hm=>?_⟩;have h6:=h5.2;have e3:(o'.looksAt ops).contains d=true:=by simpa using hm
 rw[e3]at h6;simpa using h6
theorem mA.lit(h:mA ops)(hpos:0<ops.size)(j:Nat):eN ops (List.replicate 300 true) j=false:=by
 have hm:∀k,k<300→bY (List.replicate 300 true) k=true:=fun k hk=>by unfold bY;rw[List.getD_eq_getElem?_getD,List.getElem?_replicate,if_pos hk];rfl
 cases hc:eN ops (List.replicate 300 true) j with
 | false=>rfl
 | true =>
  have hf:=h.few;unfold eN at hc;cases hj:ops[j]? with
  | none =>
   have h1:=List.all_eq_true.1 hc 0 (List.mem_range.2 hpos);rw[hm 0 oo]at h1;unfold cN at h1;rw[hj]at h1;simp at h1
  | some o =>
   have hlt:=(Array.getElem?_eq_some_iff.1 hj).1;have h1:=List.all_eq_true.1 hc j (List.mem_range.2 hlt);rw[hm j oo,(h.at_ hj).2.1]at h1;simp at h1
theorem aLf{i d:Nat}{o:Oper}{v:Value}[hF:aU F][hV:mA ops](hio:ops.toList[i]? = some o)(hd:o.dst=some d)(hin:i∈rest)(hok:aB7 rest o.after=true)(hlen:Nat.ble rest.length (m+1)=true)
  (hq:(bT ops σ o=some true∧LQ P w0 W HL σ o v)∨(bT ops σ o=some false∧v=undef)) (hdN:Nat.blt d N=true) (hs:aA HL H) (he:rest.erase i=rest')
  (h:J N ds w0 W ((d,v)::σ) H (cC F n P w0 W HL ops (List.replicate 300 true) Q m rest')):J N ds w0 W σ H (cC F n P w0 W HL ops (List.replicate 300 true) Q (m+1) rest):=by
 intro a w ha hst;subst he;rw[Array.getElem?_toList]at hio;have hpos:0<ops.size:=by have:=(Array.getElem?_eq_some_iff.1 hio).1;omega
 refine aVs (v:=v) (L:=aI σ) hio hd (fun j o' hj=>(hV.at_ hj).1) (fun j o' hne hj=>((hV.at_ hio).2.2 d hd).2 j o' hne hj) (fun a' ha'=>?_) m rest a w hin (Nat.le_of_ble_eq_true hlen) (fun j _=>hV.lit hpos j) (fun j hj t ht hm=>?_) (hst.sub hs) (fun t _ u hu=>ha.at_ t u hu) ?_
 ·rcases hq with⟨hw,hl⟩ | ⟨hw,hv⟩
  ·refine .inl ⟨vL ha' hw,fun w' hw'=>hl _ (fun x hx u hu=>?_) w' hw'⟩;cases x with
   | tmp t =>
    have:=ha' t (List.mem_append_left _ (List.mem_filterMap.2 ⟨.tmp t,hx,rfl⟩)) u hu;simp[Act.eval,this]
   | const u=>simpa [ev,Act.eval] using hu
   | global g=>simpa [ev,Act.eval] using hu
   | func f=>simpa [ev,Act.eval] using hu
  ·exact .inr ⟨vL ha' hw,hv⟩
 ·unfold cW at ht;cases hjo:ops[j]? with
  | none=>rw[hjo]at ht;cases ht
  | some o' =>
   rw[hjo]at ht;have ht':o'.dst=some t:=ht;by_cases hji:j=i
   ·subst hji;rw[hio]at hjo;injection hjo with e;subst e;exact((hV.at_ hio).2.2 t ht').1 hm
   ·have h1:=((hV.at_ hjo).2.2 t ht').2 i o (fun e=>hji e.symm) hio;have h2:=h1.2 hm;unfold cN at h2;rw[hio]at h2;have h3:=List.all_eq_true.1 hok j hj;simp only at h2;rw[h2]at h3;simp at h3
 ·exact h _ _ (ha.put d v (by simpa using hdN)) hst
theorem aG0{l:List Nat}{k i:Nat}(h:l[k]? = some i):i∈l:=List.mem_of_getElem? h
theorem dE(k:Nat){i d:Nat}{op:Op}{ty:TypeId}{pos:String}{aft:Array Edge}{gd:Option (Nat×Bool)}{vs:List Value}{v:Value}{c:Prop}[hF:aU F][hV:mA ops](hk:rest[k]? = some i)(hio:ops.toList[i]? = some ⟨some d,op,ty,pos,aft,gd⟩)(hw:bT ops σ ⟨some d,op,ty,pos,aft,gd⟩=some true)(hv:vals σ op.operands.toList=some vs)[hp:LV P w0 W HL op vs v c](hdN:Nat.blt d N=true)(hlen:Nat.ble rest.length (m+1)=true)[he:xD rest k rest'](hc:c)
  (hok:(aB7 rest aft&&rest.erase i==rest.eraseIdx k)=true) (hs:aA HL H) (h:J N ds w0 W ((d,v)::σ) H (cC F n P w0 W HL ops (List.replicate 300 true) Q m rest')):J N ds w0 W σ H (cC F n P w0 W HL ops (List.replicate 300 true) Q (m+1) rest):=by
 simp only[Bool.and_eq_true,beq_iff_eq]at hok;exact aLf hio rfl (aG0 hk) hok.1 hlen (.inl ⟨hw,aFx (vs:=vs) (c:=c) hv hc⟩) hdN hs (hok.2.trans he.h) h
theorem gD(k:Nat){i d:Nat}{op:Op}{ty:TypeId}{pos:String}{aft:Array Edge}{gd:Option (Nat×Bool)}[hF:aU F][hV:mA ops](hk:rest[k]? = some i)(hio:ops.toList[i]? = some ⟨some d,op,ty,pos,aft,gd⟩)(hw:bT ops σ ⟨some d,op,ty,pos,aft,gd⟩=some false)(hdN:Nat.blt d N=true)(hlen:Nat.ble rest.length (m+1)=true)[he:xD rest k rest']
  (hok:(aB7 rest aft&&rest.erase i==rest.eraseIdx k)=true) (hs:aA HL H) (h:J N ds w0 W ((d,undef)::σ) H (cC F n P w0 W HL ops (List.replicate 300 true) Q m rest')):J N ds w0 W σ H (cC F n P w0 W HL ops (List.replicate 300 true) Q (m+1) rest):=by
 simp only[Bool.and_eq_true,beq_iff_eq]at hok;exact aLf hio rfl (aG0 hk) hok.1 hlen (.inr ⟨hw,rfl⟩) hdN hs (hok.2.trans he.h) h
variable {mask:List Bool}
theorem yI(he:rest=rest')(h:J N ds w0 W σ H (cC F n P w0 W HL ops mask Q m rest')):J N ds w0 W σ H (cC F n P w0 W HL ops mask Q m rest):=by rw[he];exact h
theorem aAc{id:Nat}{l:List Oper}(HL:List HE)(r:List Nat)[hF:aU F](hs:aA HL H)(hr:(oF l.toArray (List.replicate l.toArray.size false)==r)=true)(hmx:P.follows .mixedOrders=true)(hok:sL l.toArray (List.replicate l.toArray.size false)=true)(hp:(fH l.toArray (List.replicate l.toArray.size false)).isEmpty=true)(hk:(Nat.ble l.toArray.size 300&&wR l.toArray)=true)
  (h:mA l.toArray→J N ds w0 W σ H (cC F n P w0 W HL l.toArray (List.replicate 300 true) Q r.length r)):J N ds w0 W σ H ((Code.region id l.toArray true).wpIn F n P Q) :=
 dM HL _ r hs (by simpa using hr) hmx hok (by simp only[Bool.and_eq_true]at hk;rw[List.isEmpty_iff.1 hp];exact fC (aO8 300 hk.1 (h ⟨hk.2,Nat.le_of_ble_eq_true hk.1⟩)))
theorem aO7(b0:Bool){i j t:Nat}{o:Oper}{b:Bool}{r:List Nat}{k:Act→World→Prop}(hk:rest=i::r)(hio:ops.toList[i]? = some o)(hg:o.guard=some (j,b))(ht:(ops[j]?).bind (·.dst)=some t)(hv:aI σ t=some (.bool b0))(h:J N ds w0 W σ H (cC F n P w0 W HL ops mask Q m rest)):J N ds w0 W σ H (cC F n P w0 W HL ops mask Q m rest):=h
theorem aHj{i j t:Nat}{o:Oper}{b c:Bool}{p:Prop}{r:List Nat}[hb:jI c p](hk:rest=i::r)(hio:ops.toList[i]? = some o)(hg:o.guard=some (j,b))(ht:(ops[j]?).bind (·.dst)=some t)(hv:aI σ t=some (.bool c))
  (h1:p→J N ds w0 W ((t,.bool true)::σ) H (cC F n P w0 W HL ops mask Q m rest)) (h2:¬p→J N ds w0 W ((t,.bool false)::σ) H (cC F n P w0 W HL ops mask Q m rest)):J N ds w0 W σ H (cC F n P w0 W HL ops mask Q m rest):=aKr t hv h1 h2
end
section
variable {P:Program} {w0:World} {W:Nat→Prop} {H:List HE}
end
def wN(a b:Int):Bool:=(a != b)&&decide ((a-b)%65536<32768)
theorem aG5(a b:Int)(w:World):
  Calls prog 148 #[.int .u16 a,.int .u16 b] w fun e w'=>e=.returned (.bool (wN a b))∧w=w':=by
 go_enter func148,ntmps148
 go_wp2
 ·go_ret
  exact⟨by simp_all [wN,IntKind.wrap_u16],rfl⟩
 ·go_ret
  exact⟨by simp_all [wN,IntKind.wrap_u16],rfl⟩
structure Ln where
 age:Int
 jump:Int
 throw:Int
 most:Int
 any:Bool
 seq:Int
 time:Int
 high:Int
 since:Int
 has:Bool
 last:Int
 based:Bool
 threw:Int
 c0:Int
 c1:Int
 c2:Int
 c3:Int
 c4:Int
 c5:Int
 c6:Int
def Ln.enc(s:Ln):List Value:=[.int .u32 s.age,.int .i64 s.jump,.int .i64 s.throw,.int .i64 s.most,.bool s.any,.int .u16 s.seq,.int .u32 s.time,.int .i64 s.high,.int .u32 s.since,.bool s.has,
 .int .i64 s.last,.bool s.based,.int .i64 s.threw,.int .i64 s.c0,.int .i64 s.c1,.int .i64 s.c2,.int .i64 s.c3,.int .i64 s.c4,.int .i64 s.c5,.int .i64 s.c6]
def Ln.note(s:Ln)(k:Int):Ln :=
 if k=0 then { s with c0:=wrap64 (s.c0+1) }else if k=1 then { s with c1:=wrap64 (s.c1+1) }else if k=2 then { s with c2:=wrap64 (s.c2+1) }else if k=3 then { s with c3:=wrap64 (s.c3+1) }
 else if k=4 then { s with c4:=wrap64 (s.c4+1) }else if k=5 then { s with c5:=wrap64 (s.c5+1) }else { s with c6:=wrap64 (s.c6+1) }
theorem aWx(s:Ln)(k:Nat)(hk:k≤6):∃n,s.enc[13+k]? = some (.int .i64 n)∧s.enc.set (13+k) (.int .i64 (wrap64 (n+1)))=(s.note k).enc:=by obtain rfl|rfl|rfl|rfl|rfl|rfl|rfl:k=0∨k=1∨k=2∨k=3∨k=4∨k=5∨k=6:=oo;all_goals exact⟨_,rfl,rfl⟩
theorem aWw(g o:Nat)(t:TypeId)(cs:Array Value)(s:Ln)(k:Int)(w:World)(H:dA w g t cs o s.enc)(h0:0≤k)(h6:k≤6):
  Calls prog 106 #[.pointer (some ⟨g,o,none⟩),.int .i64 k] w fun e w'=>e=.returned (.int .i64 k)∧cL w g t cs o (s.note k).enc w':=by
 obtain⟨k,rfl⟩:=Int.eq_ofNat_of_zero_le h0;obtain⟨n,hn,hs⟩:=aWx s k oo;have hl:13+k<s.enc.length:=(List.getElem?_eq_some_iff.1 hn).1;have hc:w.cell? ⟨g,o+13+k,none⟩=some (.int .i64 n):=by rw[Nat.add_assoc];exact H.cell_is hn
 have hf:w.frozen? ⟨g,o+13+k,none⟩=false:=H.frozen _;have hk2:(k:Int)<7:=oo;have fin:Hid (cL w g t cs o (s.note k).enc (w.drew.setCell ⟨g,o+13+k,none⟩ (.int .i64 (wrap64 (n+1))))):=by rw[← hs,Nat.add_assoc];exact(cL.start H).drew.set_ (13+k) _ hl
 clear H hn hs hl h0 h6
 go_enter func106,ntmps106
 go_wp2
 go_region
 go_wp2
 go_ret
 exact⟨rfl,fin.out⟩
def dQ(kind seq time a b c:Int):Value:=.agg #[.int .i64 kind,.int .u16 seq,.int .u32 time,.int .i32 a,.int .i32 b,.int .i32 c]
def Ln.late(s:Ln)(seq time:Int):Bool:=s.any&&(!(wN seq s.seq)||decide (time<s.time))
def Ln.order(s:Ln)(seq time:Int):Ln:=if s.late seq time then s else { s with any:=true,seq:=seq,time:=time }
theorem aMa{w:World}{g:Nat}{t:TypeId}{cs:Array Value}{o:Nat}{s:Ln}(H:dA w g t cs o s.enc)(seq time:Int)(ob:Obj)(n:Nat):
  cL w g t cs o (Ln.enc { s with any:=true,seq:=seq,time:=time }) (((((w.alloc ob).drewN n).setCell ⟨g,o+4,none⟩ (.bool true)).setCell ⟨g,o+5,none⟩ (.int .u16 seq)).setCell ⟨g,o+6,none⟩ (.int .u32 time)) :=
 ((((cL.start H).alloc ob).drewN n).set_ 4 (.bool true) (by simp[Ln.enc]) |>.set_ 5 (.int .u16 seq) (by simp[Ln.enc]) |>.set_ 6 (.int .u32 time) (by simp[Ln.enc]))
theorem aXg(g o:Nat)(t:TypeId)(cs:Array Value)(s:Ln)(kind seq time a b c:Int)(w:World)(H:dA w g t cs o s.enc)(hany:s.any=false):
  Calls prog 107 #[.pointer (some ⟨g,o,none⟩),dQ kind seq time a b c] w fun e w'=>e=.returned (.bool (!(s.late seq time)))∧cL w g t cs o (s.order seq time).enc w':=by
 have h4:w.cell? ⟨g,o+4,none⟩=some (.bool s.any):=H.cell_is rfl;have h5:w.cell? ⟨g,o+5,none⟩=some (.int .u16 s.seq):=H.cell_is rfl;have h6:w.cell? ⟨g,o+6,none⟩=some (.int .u32 s.time):=H.cell_is rfl;have f4:w.frozen? ⟨g,o+4,none⟩=false:=H.frozen _;have f5:w.frozen? ⟨g,o+5,none⟩=false:=H.frozen _;have f6:w.frozen? ⟨g,o+6,none⟩=false:=H.frozen _;have hg:=H.lt;have HH:=Lib.hid H;unfold dQ;have e1:s.late seq time=false:=by simp[Ln.late,hany]
 have e2:s.order seq time = { s with any:=true,seq:=seq,time:=time }:=by simp[Ln.order,e1]
 rw[e1,e2];rw[hany]at h4;clear H hany e1 e2
 go_enter func107,ntmps107
 go_wp2
 go_quiet (fail)
 go_wp2
 go_region
 go_wp2
 go_ret
 exact⟨rfl,aMa HH.out _ _ _ _⟩
theorem aXh(g o:Nat)(t:TypeId)(cs:Array Value)(s:Ln)(kind seq time a b c:Int)(w:World)(H:dA w g t cs o s.enc)(hany:s.any=true)(hn:wN seq s.seq=false):
  Calls prog 107 #[.pointer (some ⟨g,o,none⟩),dQ kind seq time a b c] w fun e w'=>e=.returned (.bool (!(s.late seq time)))∧cL w g t cs o (s.order seq time).enc w':=by
 have h4:w.cell? ⟨g,o+4,none⟩=some (.bool s.any):=H.cell_is rfl;have h5:w.cell? ⟨g,o+5,none⟩=some (.int .u16 s.seq):=H.cell_is rfl;have h6:w.cell? ⟨g,o+6,none⟩=some (.int .u32 s.time):=H.cell_is rfl;have f4:w.frozen? ⟨g,o+4,none⟩=false:=H.frozen _;have f5:w.frozen? ⟨g,o+5,none⟩=false:=H.frozen _;have f6:w.frozen? ⟨g,o+6,none⟩=false:=H.frozen _;have hg:=H.lt;have HH:=Lib.hid H;unfold dQ;have e1:s.late seq time=true:=by simp[Ln.late,hany,hn]
 have e2:s.order seq time=s:=by simp[Ln.order,e1]
 rw[e1,e2];rw[hany]at h4;clear H hany e1 e2
 go_enter func107,ntmps107
 go_wp2
 go_quiet ((go_at_call 148;exact aGq (aG5 _ _ _)))
 go_wp2
 go_ret
 exact⟨rfl,((cL.start HH.out).alloc _).drewN _⟩
theorem aXi(g o:Nat)(t:TypeId)(cs:Array Value)(s:Ln)(kind seq time a b c:Int)(w:World)(H:dA w g t cs o s.enc)(hany:s.any=true)(hn:wN seq s.seq=true)(ht:decide (time<s.time)=false):
  Calls prog 107 #[.pointer (some ⟨g,o,none⟩),dQ kind seq time a b c] w fun e w'=>e=.returned (.bool (!(s.late seq time)))∧cL w g t cs o (s.order seq time).enc w':=by
 have h4:w.cell? ⟨g,o+4,none⟩=some (.bool s.any):=H.cell_is rfl;have h5:w.cell? ⟨g,o+5,none⟩=some (.int .u16 s.seq):=H.cell_is rfl;have h6:w.cell? ⟨g,o+6,none⟩=some (.int .u32 s.time):=H.cell_is rfl;have f4:w.frozen? ⟨g,o+4,none⟩=false:=H.frozen _;have f5:w.frozen? ⟨g,o+5,none⟩=false:=H.frozen _;have f6:w.frozen? ⟨g,o+6,none⟩=false:=H.frozen _;have hg:=H.lt;have HH:=Lib.hid H;unfold dQ;have e1:s.late seq time=false:=by simp[Ln.late,hany,hn,ht]
 have e2:s.order seq time = { s with any:=true,seq:=seq,time:=time }:=by simp[Ln.order,e1]
 rw[e1,e2];rw[hany]at h4;clear H hany e1 e2
 go_enter func107,ntmps107
 go_wp2
 go_quiet ((go_at_call 148;exact aGq (aG5 _ _ _)))
 go_wp2
 go_region
 go_wp2
 go_ret
 exact⟨rfl,aMa HH.out _ _ _ _⟩
theorem aXj(g o:Nat)(t:TypeId)(cs:Array Value)(s:Ln)(kind seq time a b c:Int)(w:World)(H:dA w g t cs o s.enc)(hany:s.any=true)(hn:wN seq s.seq=true)(ht:decide (time<s.time)=true):
  Calls prog 107 #[.pointer (some ⟨g,o,none⟩),dQ kind seq time a b c] w fun e w'=>e=.returned (.bool (!(s.late seq time)))∧cL w g t cs o (s.order seq time).enc w':=by
 have h4:w.cell? ⟨g,o+4,none⟩=some (.bool s.any):=H.cell_is rfl;have h5:w.cell? ⟨g,o+5,none⟩=some (.int .u16 s.seq):=H.cell_is rfl;have h6:w.cell? ⟨g,o+6,none⟩=some (.int .u32 s.time):=H.cell_is rfl;have f4:w.frozen? ⟨g,o+4,none⟩=false:=H.frozen _;have f5:w.frozen? ⟨g,o+5,none⟩=false:=H.frozen _;have f6:w.frozen? ⟨g,o+6,none⟩=false:=H.frozen _;have hg:=H.lt;have HH:=Lib.hid H;unfold dQ;have e1:s.late seq time=true:=by simp[Ln.late,hany,hn,ht]
 have e2:s.order seq time=s:=by simp[Ln.order,e1]
 rw[e1,e2];rw[hany]at h4;clear H hany e1 e2
 go_enter func107,ntmps107
 go_wp2
 go_quiet ((go_at_call 148;exact aGq (aG5 _ _ _)))
 go_wp2
 go_ret
 exact⟨rfl,((cL.start HH.out).alloc _).drewN _⟩
theorem aD2(g o:Nat)(t:TypeId)(cs:Array Value)(s:Ln)(kind seq time a b c:Int)(w:World)(H:dA w g t cs o s.enc):
  Calls prog 107 #[.pointer (some ⟨g,o,none⟩),dQ kind seq time a b c] w fun e w'=>e=.returned (.bool (!(s.late seq time)))∧cL w g t cs o (s.order seq time).enc w':=by
 rcases hany:s.any with _|_
 ·exact aXg g o t cs s kind seq time a b c w H hany
 ·rcases hn:wN seq s.seq with _|_
  ·exact aXh g o t cs s kind seq time a b c w H hany hn
  ·rcases ht:decide (time<s.time) with _|_
   ·exact aXi g o t cs s kind seq time a b c w H hany hn ht
   ·exact aXj g o t cs s kind seq time a b c w H hany hn ht
