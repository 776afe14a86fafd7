import Derived.Test.YtbhchphfmhmabaaGreatP01
set_option maxHeartbeats 512000000
set_option maxRecDepth 4000
set_option linter.unusedVariables false
set_option linter.unusedSimpArgs false
namespace Go.Proofs.YtbhchphfmhmabaaGreat
open Go.RowKit
class PV(P:Program)(op:Op)(vs:List Value)(v:outParam Value)(c:outParam Prop):Prop where
 h:c→∀(ρ:Operand→Value) (o:Oper),o.op=op→op.operands.toList.map ρ=vs→∀w,(execOp ρ o).run P w=.ok (.value v) w
theorem pW{ρ:Operand→Value}{x:Operand}{v:Value}(h:[x].map ρ=[v]):ρ x=v:=by simpa using h
theorem sK{ρ:Operand→Value}{x y:Operand}{u v:Value}(h:[x,y].map ρ=[u,v]):ρ x=u∧ρ y=v:=by simpa using h
section
variable {P:Program}
theorem zM{op:BinOp}{t u:TypeId}{x y:Operand}{k:IntKind}{a b:Int}{v:Value}(hv:tF op k a b=some v):∀(ρ:Operand→Value) (o:Oper),o.op=.binOp op t x y u→(Op.binOp op t x y u).operands.toList.map ρ=[.int k a,.int k b]→∀w,(execOp ρ o).run P w=.ok (.value v) w:=by rintro ρ ⟨dst,op',ty,pos,aft,gd⟩ rfl h w;obtain⟨h1,h2⟩:=sK h;have:=aN5 (P:=P) hv t x y w;simp only[execOp,h1,h2];rw[Sem.run_bind,this];rfl
instance (x:Operand)(v:Value):PV P (.move x) [v] v True:=⟨by rintro _ ρ ⟨dst,op',ty,pos,aft,gd⟩ rfl h w;simp[execOp,pW h]⟩
instance (x:Operand)(v:Value):PV P (.assign x) [v] v True:=⟨by rintro _ ρ ⟨dst,op',ty,pos,aft,gd⟩ rfl h w;simp[execOp,pW h]⟩
instance (t u:TypeId)(x y:Operand)(k:IntKind)(a b:Int):PV P (.binOp .add t x y u) [.int k a,.int k b] (.int k (a+b)) (bG k (a+b)):=⟨fun hc=>zM (by simp[tF,mJ hc])⟩
instance (t u:TypeId)(x y:Operand)(k:IntKind)(a b:Int):PV P (.binOp .sub t x y u) [.int k a,.int k b] (.int k (a-b)) (bG k (a-b)):=⟨fun hc=>zM (by simp[tF,mJ hc])⟩
instance (t u:TypeId)(x y:Operand)(k:IntKind)(a b:Int):PV P (.binOp .mul t x y u) [.int k a,.int k b] (.int k (a*b)) (bG k (a*b)):=⟨fun hc=>zM (by simp[tF,mJ hc])⟩
instance (t u:TypeId)(x y:Operand)(k:IntKind)(a b:Int):PV P (.binOp .lss t x y u) [.int k a,.int k b] (.bool (decide (a<b))) True:=⟨fun _=>zM rfl⟩
instance (t u:TypeId)(x y:Operand)(k:IntKind)(a b:Int):PV P (.binOp .gtr t x y u) [.int k a,.int k b] (.bool (decide (b<a))) True:=⟨fun _=>zM rfl⟩
instance (t u:TypeId)(x y:Operand)(k:IntKind)(a b:Int):PV P (.binOp .geq t x y u) [.int k a,.int k b] (.bool (decide (b≤a))) True:=⟨fun _=>zM rfl⟩
theorem aYm{t u:TypeId}{x y:Operand}{k k':IntKind}{a b:Int}(hb:0≤b):∀(ρ:Operand→Value) (o:Oper),o.op=.binOp .shl t x y u→(Op.binOp .shl t x y u).operands.toList.map ρ=[.int k a,.int k' b]→∀w,(execOp ρ o).run P w=.ok (.value (.int k (k.wrap (a*2^(min b.toNat k.bits))))) w:=by rintro ρ ⟨dst,op',ty,pos,aft,gd⟩ rfl h w;obtain⟨h1,h2⟩:=sK h;simp[execOp,h1,h2,eqGuard,binOp,Op.shift,show ¬b<0 by omega]
def zQ(a b:Nat):Nat:=a*2^b
instance (priority:=100) (t u:TypeId)(x y:Operand)(k k':IntKind)(a b:Nat):PV P (.binOp .shl t x y u) [.int k (a:Int),.int k' (b:Int)] (.int k (zQ a b:Nat)) (vO k b∧bG k (zQ a b:Nat)):=⟨fun hc ρ o ho h w=>by
 have e:((zQ a b:Nat):Int)=(a:Int)*2^b:=by simp[zQ]
 rw[aYm oo ρ o ho h w,Int.toNat_natCast,Nat.min_eq_left (xX hc.1),← e,mJ hc.2]⟩
instance (s t:TypeId)(x:Operand)(k k':IntKind)(a:Int)(dd:TypeDesc)[hs:aN P s dd][ht:aN P t (.int k')]:PV P (.convert s t x) [.int k a] (.int k' a) (bG k' a):=⟨by rintro hc ρ ⟨dst,op',ty,pos,aft,gd⟩ rfl h w;simp[execOp,pW h,convert,run_underlying hs.h,run_underlying ht.h,Conv.intToInt,mJ hc]⟩
instance (t:TypeId)(x:Operand)(a:Bool):PV P (.unOp .not t x) [.bool a] (.bool (!a)) True:=⟨by rintro _ ρ ⟨dst,op',ty,pos,aft,gd⟩ rfl h w;simp[execOp,pW h,Op.unary]⟩
instance (x:Operand)(t e:TypeId)(A:Option Addr)(m c:Nat)[hu:aN P t (.slice e)]:PV P (.call ⟨.builtin .len,#[x],#[t]⟩) [.slice A m c] (.int .i64 m) True:=⟨by rintro _ ρ ⟨dst,op',ty,pos,aft,gd⟩ rfl h w;have h1:=pW (x:=x) (by simpa [Op.operands,Call.operands] using h);simp[execOp,h1,resolve,invoke,builtin,Builtin.len_,run_underlying hu.h,goInt]⟩
instance (x:Operand)(i:Nat)(vs:List Value)(v:Value)[hg:dG vs i v]:PV P (.extract x i) [.tuple vs.toArray] v True:=⟨by rintro _ ρ ⟨dst,op',ty,pos,aft,gd⟩ rfl h w;have:=hg.h;simp[execOp,pW h,Instr.extract,this]⟩
end
def PQ(P:Program)(σ:List (Nat×Value))(o:Oper)(v:Value):Prop :=
 ∀ρ:Operand→Value,(∀x∈o.op.operands.toList,∀u,ev σ x=some u→ρ x=u)→∀w,(execOp ρ o).run P w=.ok (.value v) w
theorem aMn{P:Program}{σ:List (Nat×Value)}{o:Oper}{vs:List Value}{v:Value}{c:Prop}[hp:PV P o.op vs v c](hv:vals σ o.op.operands.toList=some vs)(hc:c):PQ P σ o v:=by
 intro ρ h w;refine hp.h hc ρ o rfl ?_ w;have key:∀(l:List Operand) (vs:List Value),vals σ l=some vs→(∀x∈l,∀u,ev σ x=some u→ρ x=u)→l.map ρ=vs:=by
  intro l
  induction l with
  | nil=>intro vs hv _;simp[vals]at hv;simp[hv]
  | cons x r ih =>
   intro vs hv h;simp only[vals]at hv;cases hx:ev σ x with
   | none=>simp[hx]at hv
   | some u =>
    cases hr:vals σ r with
    | none=>simp[hx,hr]at hv
    | some us =>
     simp[hx,hr]at hv;subst hv;rw[List.map_cons,h x (List.mem_cons_self ..) u hx,ih us hr fun y hy=>h y (List.mem_cons_of_mem _ hy)]
 exact key _ _ hv h
def rK(P:Program)(N:Nat)(ops:Array Oper):List Oper→List (Nat×Value)→(List (Nat×Value)→Prop)→Prop
 | [],σ,T=>T σ
 | o::rest,σ,T=>∃d v,o.dst=some d∧d<N∧((bT ops σ o=some true∧PQ P σ o v)∨(bT ops σ o=some false∧v=undef))∧rK P N ops rest ((d,v)::σ) T
theorem sP{P:Program}{N:Nat}{ops:Array Oper}{σ:List (Nat×Value)}{T:List (Nat×Value)→Prop}(h:T σ):rK P N ops [] σ T:=h
theorem sQ{P:Program}{N:Nat}{ops:Array Oper}{σ:List (Nat×Value)}{T:List (Nat×Value)→Prop}{rest:List Oper}{d:Nat}{op:Op}{ty:TypeId}{pos:String}{aft:Array Edge}{gd:Option (Nat×Bool)}{vs:List Value}{v:Value}{c:Prop}
  (hw:bT ops σ ⟨some d,op,ty,pos,aft,gd⟩=some true) (hv:vals σ op.operands.toList=some vs) [hp:PV P op vs v c] (hdN:Nat.blt d N=true) (hc:c) (h:rK P N ops rest ((d,v)::σ) T):rK P N ops (⟨some d,op,ty,pos,aft,gd⟩::rest) σ T :=
 ⟨d,v,rfl,by simpa using hdN,.inl ⟨hw,aMn (vs:=vs) (c:=c) hv hc⟩,h⟩
theorem sR{P:Program}{N:Nat}{ops:Array Oper}{σ:List (Nat×Value)}{T:List (Nat×Value)→Prop}{rest:List Oper}{d:Nat}{o:Oper}(hd:o.dst=some d)(hdN:Nat.blt d N=true)(hw:bT ops σ o=some false)(h:rK P N ops rest ((d,undef)::σ) T):rK P N ops (o::rest) σ T :=
 ⟨d,undef,hd,by simpa using hdN,.inr ⟨hw,rfl⟩,h⟩
def nq(Q:Exit→Act→World→Prop):Exit→Act→World→Prop
 | .normal=>Q .normal
 | _=>fun _ _=>False
instance {Q:Exit→Act→World→Prop}:CC (nq Q .normal) (Q .normal):=⟨fun h=>h⟩
def bY(mask:List Bool)(i:Nat):Bool:=mask.getD i false
def cW(ops:Array Oper)(j:Nat):Option Nat:=(ops[j]?).bind (·.dst)
def oF(ops:Array Oper)(mask:List Bool):List Nat:=(List.range ops.size).filter fun i=>!bY mask i
def fH(ops:Array Oper)(mask:List Bool):List Nat:=(List.range ops.size).filter fun i=>bY mask i
def cQ(ops:Array Oper)(l:List Nat):List Oper:=l.filterMap (ops[·]?)
def vY(ops:Array Oper):List Nat→Bool
 | a::b::r=>cN ops b a&&vY ops (b::r)
 | _=>true
def aLg(ops:Array Oper)(mask:List Bool):Bool :=
 mask.length==ops.size &&
 ((List.range ops.size).all fun i=>oP ops i) &&
 ((List.range ops.size).all fun i=>match ops[i]? with
  | none=>true
  | some o=>gK o&&((List.range ops.size).all fun j=>match cW ops j with
    | none=>true
    | some d=>(match bY mask i||bY mask j,Nat.beq i j with|true,false=>o.dst != some d|_,_=>true) &&
      (!(o.looksAt ops).contains d||(match bY mask i,bY mask j with
       | _,true=>Nat.blt j i&&cN ops i j
       | true,false=>false
       | false,false=>true))) &&
    (!bY mask i||o.dst.isSome)) &&
 vY ops (oF ops mask)
def aYh:Op→Bool
 | .move _ | .assign _ | .convert .. | .extract ..=>true
 | .binOp op ..=>match op with | .add | .sub | .mul | .eql | .neq | .lss | .leq | .gtr | .geq | .shl=>true|_=>false
 | .unOp op ..=>match op with | .not=>true|_=>false
 | .call ⟨.builtin .len,_,_⟩=>true
 | _=>false
def aCw(ops:Array Oper):List Oper→List Nat→List Bool
 | [],_=>[]
 | o::r,hv=>match aYh o.op&&!((o.looksAt ops).any fun t=>hv.contains t),o.dst with
  | true,some _=>true::aCw ops r hv
  | _,some d=>false::aCw ops r (d::hv)
  | _,none=>false::aCw ops r hv
structure yU(N:Nat)(ops:Array Oper)(mask:List Bool)(V:Nat→Option (Nat×Value))(L:Nat→Option Value)(listed:Array Bool)(a b:Act):Prop where
 sa:a.tmps.size=N
 sb:b.tmps.size=N
 df:a.defers=b.defers
 ag:∀t,(∀j d,bY mask j=true→cW ops j=some d→listed[j]? = some false→d≠t)→a.tmps[t]? = b.tmps[t]?
 bv:∀j d v,V j=some (d,v)→b.tmps[d]? = some v
 ob:∀t u,L t=some u→(∀k,bY mask k=false→cW ops k≠some t)→b.tmps[t]? = some u
theorem aJ2{ops:Array Oper}: ∀(l:List Nat) (k i:Nat),vY ops (k::l)=true→i∈l→∃p∈k::l,cN ops i p=true
 | [],k,i,_,hi=>by cases hi
 | x::r,k,i,h,hi=>by
  simp only[vY,Bool.and_eq_true]at h;rcases List.mem_cons.1 hi with rfl|hi
  ·exact⟨k,List.mem_cons_self ..,h.1⟩
  ·obtain⟨p,hp,he⟩:=aJ2 r x i h.2 hi;exact⟨p,List.mem_cons_of_mem _ hp,he⟩
theorem aRt{ops:Array Oper}{k:Nat}{l:List Nat}(h:vY ops (k::l)=true):vY ops l=true:=by
 cases l with
 | nil=>rfl
 | cons x r=>simp only[vY,Bool.and_eq_true]at h;exact h.2
theorem wX{F:Fence}{n:Nat}{P:Program}{o:Oper}{a b:Act}{K K':Act→World→Prop}{Q:Exit→Act→World→Prop}{r:Result Next}
  (h:o.uponIn F n P b K (nq Q) r) (hK:∀v w',K (b.put o.dst v) w'→K' (a.put o.dst v) w') (hd:∀x w',K (({ b with defers:=x::b.defers }:Act).put o.dst undef) w'→K' (({ a with defers:=x::a.defers }:Act).put o.dst undef) w'):o.uponIn F n P a K' Q r:=by
 have key:∀(v:Ending) (w':World),(match v,w' with
  | .returned v,w''=>K (b.put o.dst v) w''
  | .panicked chain,w''=>nq Q (.panic chain) b w''
  | .outgrown,_=>LetsOut (nq Q))→(match v,w' with
  | .returned v,w''=>K' (a.put o.dst v) w''
  | .panicked chain,w''=>Q (.panic chain) a w''
  | .outgrown,_=>LetsOut Q):=by
  intro v w' hv;cases v with
  | returned v=>exact hK _ _ hv
  | panicked c=>exact False.elim hv
  | outgrown=>obtain⟨_,_,h0⟩:=hv;exact False.elim h0
 cases r with
 | ok x w' =>
  cases x<;>simp only[Oper.uponIn]at h ⊢
  case value v=>exact hK _ _ h
  case skip=>exact hK _ _ h
  case enter f args=>exact⟨h.1,h.2.mono key⟩
  case round l f t a b=>exact⟨h.1,h.2.mono key⟩
  case defer d=>exact hd _ _ h
  case row r args=>exact⟨h.1,h.2.mono fun v w' hv=>hK _ _ hv⟩
 | halt x w' =>
  cases x<;>simp only[Oper.uponIn]at h ⊢
  exact False.elim h
theorem aPz{F:Fence}{n:Nat}{P:Program}{N:Nat}{Q:Exit→Act→World→Prop}{ops:Array Oper}{mask:List Bool}{V:Nat→Option (Nat×Value)}{L:Nat→Option Value}[hF:aU F]
  (hback:∀i,oP ops i=true) (hplain:∀(i:Nat) (o:Oper),ops[i]? = some o→gK o=true)
  (hdst:∀(i j d:Nat),(bY mask i=true∨bY mask j=true)→i≠j→cW ops i=some d→cW ops j≠some d)
  (hlook:∀(i:Nat) (o:Oper) (j d:Nat),ops[i]? = some o→cW ops j=some d→d∈o.looksAt ops→(bY mask j=true→j<i∧cN ops i j=true)∧(bY mask i=true→bY mask j=true))
  (hV:∀(i:Nat) (o:Oper),bY mask i=true→ops[i]? = some o→∃d v,V i=some (d,v)∧o.dst=some d∧d<N ∧
   ∀a:Act,(∀t∈o.looksAt ops,∀u,L t=some u→a.tmps[t]? = some u)→(Region.wanted o (yielded ops a.tmps)=true∧∀w,(execOp a.eval o).run P w=.ok (.value v) w)∨(Region.wanted o (yielded ops a.tmps)=false∧v=undef))
  (hVo:∀i d v,V i=some (d,v)→bY mask i=true∧cW ops i=some d) :
  ∀(fuel:Nat) (listed:Array Bool) (a b:Act) (w:World) (rest:List Nat),qH listed ops.size≤fuel→listed.size=ops.size→(∀j,j<ops.size→listed[j]? = some true∨listed[j]? = some false) →
   (∀j∈rest,j<ops.size∧bY mask j=false∧listed[j]? = some false)→(∀j,j<ops.size→bY mask j=false→listed[j]? = some false→j∈rest)→rest.Nodup→vY ops rest=true →
   yU N ops mask V L listed a b→wpListIn F n P ops (nq Q) (cQ ops rest) b w→wpAnyIn F n P .any ops Q fuel listed a w:=by
 have hready:∀(listed:Array Bool) (i j:Nat),i∈Region.ready .any ops listed→cN ops i j=true→(listed[j]? = some true∨listed[j]? = some false)→listed[j]? = some true:=by
  intro listed i j hi he hl;obtain⟨-,o,hio,hie⟩:=mem_ready.1 hi;unfold cN at he;rw[hio]at he;simp only[Array.any_eq_true']at he;obtain⟨e,hemem,hee⟩:=he;simp only[Bool.and_eq_true,beq_iff_eq]at hee;have:=hie e hemem hee.1;rw[hee.2]at this;rcases hl with e1|e1
  ·exact e1
  ·rw[pQ e1]at this;cases this
 intro fuel
 induction fuel with
 | zero =>
  intro listed a b w rest hu hsz hl hr1 hr2 hnd hch hsim hwp;have hall:=aHp hl oo;have hrest:rest=[]:=by
   cases rest with
   | nil=>rfl
   | cons x r=>have:=hr1 x (List.mem_cons_self ..);rw[hall x this.1]at this;cases this.2.2
  subst hrest;have hab:a=b:=by
   have h1:a.tmps=b.tmps:=Array.ext_getElem? fun t=>hsim.ag t fun j d _ hd hf=>by
    have hjs:j<ops.size:=by
     unfold cW at hd;cases ho:ops[j]? with
     | none=>simp[ho]at hd
     | some o=>exact(Array.getElem?_eq_some_iff.1 ho).1
    rw[hall j hjs]at hf;cases hf
   cases a;cases b;simp at h1;have:=hsim.df;simp at this;simp[h1,this]
  subst hab;have hrd:Region.ready .any ops listed=[]:=by apply List.eq_nil_iff_forall_not_mem.2;intro j hj;obtain⟨hj1,o,ho,-⟩:=mem_ready.1 hj;have hjs:j<ops.size:=(Array.getElem?_eq_some_iff.1 ho).1;rw[pQ (hall j hjs)]at hj1;cases hj1
  exact⟨hrd,hwp⟩
 | succ fuel ih =>
  intro listed a b w rest hu hsz hl hr1 hr2 hnd hch hsim hwp;refine⟨fun hrd=>?_,fun i hi=>?_⟩
  ·have hall:∀j,j<ops.size→listed[j]? = some true:=by
    intro j hj;rcases hl j hj with e|e
    ·exact e
    ·exfalso;obtain⟨x,hx1,hx2,hx3⟩:=aCg (p:=fun j=>listed[j]? = some false) ops.size ⟨j,hj,e⟩;have:=aDf (ops:=ops) (listed:=listed) hx1 (hback x) hx2 (fun y hy=>(hl y oo).resolve_right (hx3 y hy));rw[hrd]at this;cases this
   have hrest:rest=[]:=by
    cases rest with
    | nil=>rfl
    | cons x r=>have:=hr1 x (List.mem_cons_self ..);rw[hall x this.1]at this;cases this.2.2
   subst hrest;have hab:a=b:=by
    have h1:a.tmps=b.tmps:=Array.ext_getElem? fun t=>hsim.ag t fun j d _ hd hf=>by
     have hjs:j<ops.size:=by
      unfold cW at hd;cases ho:ops[j]? with
      | none=>simp[ho]at hd
      | some o=>exact(Array.getElem?_eq_some_iff.1 ho).1
     rw[hall j hjs]at hf;cases hf
    cases a;cases b;simp at h1;have:=hsim.df;simp at this;simp[h1,this]
   subst hab;exact hwp
  ·obtain⟨hiu,o,hio,-⟩:=mem_ready.1 hi;have his:i<ops.size:=(Array.getElem?_eq_some_iff.1 hio).1;have hifalse:listed[i]? = some false:=by
    rcases hl i his with e|e
    ·rw[pQ e]at hiu;cases hiu
    ·exact e
   have hus:=aHo his hifalse;have hl':∀j,j<ops.size→(listed.setIfInBounds i true)[j]? = some true∨(listed.setIfInBounds i true)[j]? = some false:=by
    intro j hj;rw[Array.getElem?_setIfInBounds];split
    ·rw[if_pos oo];exact .inl rfl
    ·exact hl j hj
   have hset:∀j,(listed.setIfInBounds i true)[j]? = some false→j≠i∧listed[j]? = some false:=by
    intro j hj;rw[Array.getElem?_setIfInBounds]at hj;by_cases e:i=j
    ·rw[if_pos e,if_pos oo]at hj;cases hj
    ·rw[if_neg e]at hj;exact⟨fun e'=>e e'.symm,hj⟩
   have hset2:∀j,j≠i→listed[j]? = some false→(listed.setIfInBounds i true)[j]? = some false:=by intro j hj h;rw[Array.getElem?_setIfInBounds,if_neg (fun e=>hj e.symm)];exact h
   have hagree:∀t∈o.looksAt ops,a.tmps[t]? = b.tmps[t]?:=by
    intro t ht;refine hsim.ag t fun j d hmj hdj hfj e=>?_;subst e;have hjs:j<ops.size:=by
     unfold cW at hdj;cases ho:ops[j]? with
     | none=>simp[ho]at hdj
     | some o=>exact(Array.getElem?_eq_some_iff.1 ho).1
    have:=hready listed i j hi ((hlook i o j d hio hdj ht).1 hmj).2 (hl j hjs);rw[hfj]at this;cases this
   refine wpOpIn_step hio fun K' hK'=>?_;have hnd':∀c,o.op≠.defer c:=by intro c e;have:=hplain i o hio;unfold gK at this;rw[e]at this;cases this
   by_cases hmi:bY mask i=true
   ·obtain⟨d,v,hVi,hd,hdN,hex⟩:=hV i o hmi hio;have hdi:cW ops i=some d:=by simp[cW,hio,hd]
    have hsim':yU N ops mask V L (listed.setIfInBounds i true) (a.put (some d) v) b:=by
     refine⟨by simp[Act.put,hsim.sa],hsim.sb,by simp[Act.put,hsim.df],fun t ht=>?_,hsim.bv,hsim.ob⟩;simp only[Act.put,Array.getElem?_setIfInBounds];by_cases e:d=t
     ·subst e;rw[if_pos rfl,if_pos (by rw[hsim.sa];exact hdN),hsim.bv i d v hVi]
     ·rw[if_neg e];refine hsim.ag t fun j d' hmj hdj hfj=>?_;by_cases hji:j=i
      ·subst hji;rw[hdi]at hdj;injection hdj with hdj;subst hdj;exact e
      ·exact ht j d' hmj hdj (hset2 j hji hfj)
    have hnext:K' (a.put (some d) v) w:=hK' _ _ (ih _ _ b w rest oo (by simpa using hsz) hl' (fun j hj=>by obtain⟨q1,q2,q3⟩:=hr1 j hj;exact⟨q1,q2,hset2 j (fun e=>by subst e;rw[hmi]at q2;cases q2) q3⟩) (fun j hj hm hf=>hr2 j hj hm (hset j hf).2) hnd hch hsim' hwp);rcases hex a (fun t ht u hu=>by rw[hagree t ht];exact hsim.ob t u hu fun k hk hdk=>by have:=(hlook i o k t hio hdk ht).2 hmi;rw[hk]at this;cases this) with⟨hw1,hrun⟩ | ⟨hw1,hv⟩
    ·rw[if_pos hw1];refine⟨fun f _=>hF.out.fn f,?_⟩;rw[Oper.semAt_plain F _ _ hnd',hrun w,Oper.uponIn_value,hd];exact hnext
    ·rw[hw1];simp only[Bool.false_eq_true,if_false];refine⟨fun f _=>hF.out.fn f,?_⟩;rw[hd,← hv];exact hnext
   ·have hmi':bY mask i=false:=by simpa using hmi
    cases rest with
    | nil=>exact absurd (hr2 i his hmi' hifalse) aE
    | cons k r =>
     have hik:i=k:=by
      rcases List.mem_cons.1 (hr2 i his hmi' hifalse) with e|e
      ·exact e
      ·exfalso;obtain⟨p,hp,he⟩:=aJ2 r k i hch e;have hp1:=hr1 p hp;have:=hready listed i p hi he (hl p hp1.1);rw[hp1.2.2]at this;cases this
     subst hik;have hopsAt:cQ ops (i::r)=o::cQ ops r:=by simp[cQ,hio]
     rw[hopsAt]at hwp;have hwt:Region.wanted o (yielded ops a.tmps)=Region.wanted o (yielded ops b.tmps):=by
      unfold Region.wanted;cases hg:o.guard with
      | none=>rfl
      | some g =>
       obtain⟨j,c⟩:=g;simp only[yielded];cases hj:(ops[j]?).bind (·.dst) with
       | none=>rfl
       | some t =>
        have:t∈o.looksAt ops:=by unfold Oper.looksAt;rw[hg];exact List.mem_append_right _ (by simp[hj])
        simp only[Option.bind_some,hagree t this]
     have hev:execOp a.eval o=execOp b.eval o:=by
      refine execOp_congr o (fun cs c e=>?_) fun x hx=>yZ fun t e=>?_
      ·have:=hplain i o hio;unfold gK at this;rw[e]at this;cases this
      ·subst e;exact hagree t (List.mem_append_left _ (List.mem_filterMap.2 ⟨.tmp t,by simpa using hx,rfl⟩))
     have hsimH:∀(a' b':Act),a'.tmps=a.tmps→b'.tmps=b.tmps→a'.defers=b'.defers→∀v,yU N ops mask V L (listed.setIfInBounds i true) (a'.put o.dst v) (b'.put o.dst v):=by
      intro a' b' ea eb ed v;cases hd:o.dst with
      | none =>
       refine⟨by simp[Act.put,ea,hsim.sa],by simp[Act.put,eb,hsim.sb],by simp[Act.put,ed],fun t ht=>?_,fun j d v hj=>by simpa [Act.put,eb] using hsim.bv j d v hj,fun t u hu hk=>by simpa [Act.put,eb] using hsim.ob t u hu hk⟩;simp only[Act.put,ea,eb];exact hsim.ag t fun j d hmj hdj hfj=>ht j d hmj hdj (hset2 j (fun e=>by subst e;rw[hmi']at hmj;cases hmj) hfj)
      | some d =>
       have hdi:cW ops i=some d:=by simp[cW,hio,hd]
       refine⟨by simp[Act.put,ea,hsim.sa],by simp[Act.put,eb,hsim.sb],by simp[Act.put,ed],fun t ht=>?_,fun j d' v' hj=>?_,fun t u hu hk=>?_⟩
       ·simp only[Act.put,ea,eb,Array.getElem?_setIfInBounds,hsim.sa,hsim.sb];by_cases e:d=t
        ·rw[if_pos e,if_pos e]
        ·rw[if_neg e,if_neg e];exact hsim.ag t fun j d hmj hdj hfj=>ht j d hmj hdj (hset2 j (fun e=>by subst e;rw[hmi']at hmj;cases hmj) hfj)
       ·simp only[Act.put,eb,Array.getElem?_setIfInBounds];have hne:d≠d':=by obtain⟨q1,q2⟩:=hVo j d' v' hj;intro e;subst e;exact hdst i j d (.inr q1) (fun e=>by subst e;rw[hmi']at q1;cases q1) hdi q2
        rw[if_neg hne];exact hsim.bv j d' v' hj
       ·simp only[Act.put,eb,Array.getElem?_setIfInBounds];have hne:d≠t:=fun e=>hk i hmi' (by rw[← e];exact hdi);rw[if_neg hne];exact hsim.ob t u hu hk
     have hnext:∀(a' b':Act),a'.tmps=a.tmps→b'.tmps=b.tmps→a'.defers=b'.defers→∀v w',wpListIn F n P ops (nq Q) (cQ ops r) (b'.put o.dst v) w'→K' (a'.put o.dst v) w':=by
      intro a' b' ea eb ed v w' hh;have hnd2:=List.nodup_cons.1 hnd
      exact hK' _ _ (ih _ _ _ w' r oo (by simpa using hsz) hl' (fun j hj=>by
       obtain⟨q1,q2,q3⟩:=hr1 j (List.mem_cons_of_mem _ hj);exact⟨q1,q2,hset2 j (fun e=>by subst e;exact hnd2.1 hj) q3⟩) (fun j hj hm hf=>by
       obtain⟨q1,q2⟩:=hset j hf;rcases List.mem_cons.1 (hr2 j hj hm q2) with e|e
       ·exact absurd e q1
       ·exact e) hnd2.2 (aRt hch) (hsimH a' b' ea eb ed v) hh)
     simp only[wpListIn]at hwp;rw[hwt];by_cases hw:Region.wanted o (yielded ops b.tmps)=true
     ·rw[if_pos hw]at hwp ⊢;refine⟨fun f _=>hF.out.fn f,?_⟩;have h2:=hwp.2;rw[Oper.semAt_plain F _ _ hnd',← hev]at h2;rw[Oper.semAt_plain F _ _ hnd'];exact wX h2 (fun v w' hh=>hnext a b rfl rfl hsim.df v w' hh) (fun x w' hh=>hnext { a with defers:=x::a.defers } { b with defers:=x::b.defers } rfl rfl (by simp[hsim.df]) undef w' hh)
     ·rw[if_neg hw]at hwp ⊢;exact⟨fun f _=>hF.out.fn f,hnext a b rfl rfl hsim.df undef w hwp.2⟩
theorem rK.vals{P:Program}{N:Nat}{ops:Array Oper}{T:List (Nat×Value)→Prop}: ∀(l:List Oper) (σ:List (Nat×Value)),rK P N ops l σ T →
  ∃(vs:List (Nat×Value)),vs.length=l.length∧T (vs.reverse++σ)∧∀k o,l[k]? = some o→∃d v,vs[k]? = some (d,v)∧o.dst=some d∧d<N ∧
   ((bT ops ((vs.take k).reverse++σ) o=some true∧PQ P ((vs.take k).reverse++σ) o v)∨(bT ops ((vs.take k).reverse++σ) o=some false∧v=undef))
 | [],σ,h=>⟨[],rfl,h,aE⟩
 | o::rest,σ,h=>by
  obtain⟨d,v,hd,hdN,hq,hr⟩:=h;obtain⟨vs,h1,h2,h3⟩:=rK.vals rest ((d,v)::σ) hr;refine⟨(d,v)::vs,by simp[h1],by simpa using h2,fun k o' hk=>?_⟩;cases k with
  | zero =>
   simp at hk;subst hk;exact⟨d,v,rfl,hd,hdN,by simpa using hq⟩
  | succ k =>
   obtain⟨d',v',e1,e2,e3,e4⟩:=h3 k o' (by simpa using hk);exact⟨d',v',by simpa using e1,e2,e3,by simpa using e4⟩
theorem aCu{l:List (Nat×Value)}{t:Nat}(h:∀p∈l,p.1≠t):aI l t=none:=by
 cases hl:aI l t with
 | none=>rfl
 | some u=>exact absurd rfl (h _ (zF hl))
theorem vL{ops:Array Oper}{σ:List (Nat×Value)}{o:Oper}{e:Bool}{a:Act}(ha:∀t∈o.looksAt ops,∀u,aI σ t=some u→a.tmps[t]? = some u)(hw:bT ops σ o=some e):Region.wanted o (yielded ops a.tmps)=e:=by
 unfold bT at hw;unfold Region.wanted;cases hg:o.guard with
 | none=>simp[hg]at hw;simp[hw]
 | some g =>
  obtain⟨j,b⟩:=g;simp only[hg]at hw ⊢;cases ht:(ops[j]?).bind (·.dst) with
  | none=>simp[ht]at hw
  | some t =>
   simp only[ht]at hw;cases hl:aI σ t with
   | none=>simp[hl]at hw
   | some v =>
    simp only[hl]at hw;cases v<;>simp at hw
    case bool c =>
     have hc:=ha t (by unfold Oper.looksAt;rw[hg];exact List.mem_append_right _ (by simp[ht])) _ hl;simp only[yielded,ht,Option.bind_some,hc];rw[← hw];cases c<;>cases b<;>rfl
    case tuple vs =>
     have hc:=ha t (by unfold Oper.looksAt;rw[hg];exact List.mem_append_right _ (by simp[ht])) _ hl;simp only[yielded,ht,Option.bind_some,hc];rw[hw];rfl
theorem aGd{ops:Array Oper}: ∀(l:List Nat),(∀i∈l,i<ops.size)→∀(k i:Nat),l[k]? = some i→(cQ ops l)[k]? = ops[i]?
 | [],_,k,i,h=>by simp at h
 | x::r,hl,k,i,h=>by
  have hx:x<ops.size:=hl x (List.mem_cons_self ..);have e:cQ ops (x::r)=ops[x]::cQ ops r:=by simp[cQ,hx]
  rw[e];cases k with
  | zero=>simp at h;subst h;simp[hx]
  | succ k=>simpa using aGd r (fun i hi=>hl i (List.mem_cons_of_mem _ hi)) k i (by simpa using h)
theorem aGe{ops:Array Oper}: ∀(l:List Nat),(∀i∈l,i<ops.size)→(cQ ops l).length=l.length
 | [],_=>rfl
 | x::r,hl=>by
  have hx:x<ops.size:=hl x (List.mem_cons_self ..);have e:cQ ops (x::r)=ops[x]::cQ ops r:=by simp[cQ,hx]
  rw[e,List.length_cons,List.length_cons,aGe r fun i hi=>hl i (List.mem_cons_of_mem _ hi)]
theorem aDb(ops:Array Oper)(mask:List Bool):(fH ops mask).Nodup:=List.Pairwise.filter _ List.nodup_range
theorem aKm(ops:Array Oper)(mask:List Bool):(oF ops mask).Nodup:=List.Pairwise.filter _ List.nodup_range
theorem rQ{F:Fence}{n:Nat}{P:Program}{N:Nat}{ds:List Deferred}{w0:World}{W:Nat→Prop}{σ:List (Nat×Value)}{H:List HE}{Q:Exit→Act→World→Prop}{id:Nat}{l:List Oper}{mask:List Bool}[hF:aU F]
  (hmask:aCw l.toArray l []=mask) (hmx:P.follows .mixedOrders=true) (hok:aLg l.toArray mask=true)
  (h:rK P N l.toArray (cQ l.toArray (fH l.toArray mask)) σ (fun τ=>J N ds w0 W τ H (wpListIn F n P l.toArray (nq Q) (cQ l.toArray (oF l.toArray mask))))):J N ds w0 W σ H ((Code.region id l.toArray true).wpIn F n P Q):=by
 clear hmask;intro a w ha hst;refine wpIn_region_any hmx ?_;generalize l.toArray=ops at h hok;unfold aLg at hok;simp only[Bool.and_eq_true,beq_iff_eq]at hok;obtain⟨⟨⟨hlen,hback0⟩,hall⟩,hchain⟩:=hok;have hback:∀i,oP ops i=true:=by
  intro i;rcases Nat.lt_or_ge i ops.size with hi|hi
  ·exact List.all_eq_true.1 hback0 i (List.mem_range.2 hi)
  ·unfold oP;rw[Array.getElem?_eq_none hi]
 have hmlt:∀i,bY mask i=true→i<ops.size:=by
  intro i hi;rw[← hlen];unfold bY at hi;rcases Nat.lt_or_ge i mask.length with h1|h1
  ·exact h1
  ·rw[List.getD_eq_getElem?_getD,List.getElem?_eq_none h1]at hi;cases hi
 have hdlt:∀j d,cW ops j=some d→j<ops.size:=by
  intro j d hd;unfold cW at hd;cases ho:ops[j]? with
  | none=>simp[ho]at hd
  | some o=>exact(Array.getElem?_eq_some_iff.1 ho).1
 have hper:∀(i:Nat) (o:Oper),ops[i]? = some o→gK o=true∧(bY mask i=true→o.dst.isSome=true)∧∀(j d:Nat),cW ops j=some d →
   ((bY mask i=true∨bY mask j=true)→i≠j→o.dst≠some d)∧(d∈o.looksAt ops→(bY mask j=true→j<i∧cN ops i j=true)∧(bY mask i=true→bY mask j=true)):=by
  intro i o ho;have his:i<ops.size:=(Array.getElem?_eq_some_iff.1 ho).1;have h1:=List.all_eq_true.1 hall i (List.mem_range.2 his);rw[ho]at h1;simp only[Bool.and_eq_true]at h1;obtain⟨⟨h2,h3⟩,h4⟩:=h1;refine⟨h2,fun hm=>by rw[hm]at h4;simpa using h4,fun j d hd=>?_⟩;have h5:=List.all_eq_true.1 h3 j (List.mem_range.2 (hdlt j d hd));rw[hd]at h5;simp only[Bool.and_eq_true]at h5;obtain⟨h6,h7⟩:=h5;refine⟨fun hm hne=>?_,fun hlk=>?_⟩
  ·have e1:(bY mask i||bY mask j)=true:=by rcases hm with e|e<;>simp[e]
   have e2:Nat.beq i j=false:=by
    cases hb:Nat.beq i j with
    | false=>rfl
    | true=>exact absurd (Nat.eq_of_beq_eq_true hb) hne
   rw[e1,e2]at h6;simpa using h6
  ·have e3:(o.looksAt ops).contains d=true:=by simpa using hlk
   rw[e3]at h7;simp only[Bool.not_true,Bool.false_or]at h7;refine⟨fun hm=>?_,fun hm=>?_⟩
   ·rw[hm]at h7;simpa using h7
   ·rw[hm]at h7;cases hj:bY mask j with
    | true=>rfl
    | false=>rw[hj]at h7;cases h7
 obtain⟨vs,hvl,hT,hvs⟩:=rK.vals _ _ h;have hps:∀i∈fH ops mask,i<ops.size:=fun i hi=>List.mem_range.1 (List.mem_filter.1 hi).1;rw[aGe _ hps]at hvl;have hinc:(fH ops mask).Pairwise (· < ·):=List.Pairwise.filter _ (List.pairwise_lt_range);have hget:∀k i:Nat,(fH ops mask)[k]? = some i→∃o d v,ops[i]? = some o∧bY mask i=true∧vs[k]? = some (d,v)∧o.dst=some d∧d<N ∧
   ((bT ops ((vs.take k).reverse++σ) o=some true∧PQ P ((vs.take k).reverse++σ) o v)∨(bT ops ((vs.take k).reverse++σ) o=some false∧v=undef)):=by
  intro k i hk;have him:i∈fH ops mask:=List.mem_of_getElem? hk;have his:=hps i him;have hoi:ops[i]? = some ops[i]:=Array.getElem?_eq_getElem his;obtain⟨d,v,e1,e2,e3,e4⟩:=hvs k ops[i] (by rw[aGd _ hps k i hk,hoi]);exact⟨ops[i],d,v,hoi,(List.mem_filter.1 him).2,e1,e2,e3,e4⟩
 have hkey:∀k:Nat,k<vs.length→∃i:Nat,(fH ops mask)[k]? = some i:=fun k hk=>⟨_,List.getElem?_eq_getElem oo⟩;have hdis:∀(k k' d:Nat) (v v':Value),vs[k]? = some (d,v)→vs[k']? = some (d,v')→k=k':=by
  intro k k' d v v' h1 h2;obtain⟨i,hi⟩:=hkey k (List.getElem?_eq_some_iff.1 h1).1;obtain⟨i',hi'⟩:=hkey k' (List.getElem?_eq_some_iff.1 h2).1;obtain⟨o,d1,v1,q1,q2,q3,q4,-⟩:=hget k i hi;obtain⟨o',d2,v2,r1,r2,r3,r4,-⟩:=hget k' i' hi';rw[h1]at q3;injection q3 with q3;injection q3 with q3 _;subst q3;rw[h2]at r3;injection r3 with r3;injection r3 with r3 _;subst r3;apply Classical.byContradiction;intro hne;have hii:i≠i':=by intro e;subst e;have hnd:(fH ops mask).Nodup:=aDb ops mask;exact hne ((List.getElem?_inj (List.getElem?_eq_some_iff.1 hi).1 hnd).1 (by rw[hi,hi']))
  exact((hper i o q1).2.2 i' d (by simp[cW,r1,r4])).1 (.inl q2) hii q4
 have hN:∀p∈vs.reverse,p.1<N:=by intro p hp;obtain⟨k,hk,hke⟩:=List.getElem_of_mem (List.mem_reverse.1 hp);obtain⟨i,hi⟩:=hkey k hk;obtain⟨o,d,v,-,-,q3,-,q5,-⟩:=hget k i hi;rw[List.getElem?_eq_getElem hk,hke]at q3;injection q3 with q3;subst q3;exact q5
 have hpos:∀i:Nat,bY mask i=true→∃k:Nat,(fH ops mask)[k]? = some i:=by intro i hi;have:i∈fH ops mask:=List.mem_filter.2 ⟨List.mem_range.2 (hmlt i hi),hi⟩;obtain⟨k,hk,hke⟩:=List.getElem_of_mem this;exact⟨k,by rw[List.getElem?_eq_getElem hk,hke]⟩
 have hlookv:∀(k d:Nat) (v:Value),vs[k]? = some (d,v)→aI vs.reverse d=some v:=by
  intro k d v hk;cases hl:aI vs.reverse d with
  | none=>exact absurd (List.mem_reverse.2 (List.mem_of_getElem? hk)) (aAr hl v)
  | some u =>
   obtain⟨k',hk',hke⟩:=List.getElem_of_mem (List.mem_reverse.1 (zF hl));have h2:vs[k']? = some (d,u):=by rw[List.getElem?_eq_getElem hk',hke]
   have:=hdis k k' d v u hk h2;subst this;rw[hk]at h2;injection h2 with h2;injection h2 with _ h2;rw[h2]
 let V:Nat→Option (Nat×Value):=fun i=>if bY mask i=true then (vs[(fH ops mask).idxOf i]?)else none;have hVk:∀(k i:Nat),(fH ops mask)[k]? = some i→bY mask i=true→V i=vs[k]?:=by
  intro k i hk hm;have hnd:(fH ops mask).Nodup:=aDb ops mask;have:(fH ops mask).idxOf i=k:=by have hkl:=(List.getElem?_eq_some_iff.1 hk).1;have hmem:=List.mem_of_getElem? hk;exact(List.getElem?_inj (List.idxOf_lt_length_of_mem hmem) hnd).1 (by rw[List.getElem?_eq_getElem (List.idxOf_lt_length_of_mem hmem),List.getElem_idxOf,hk])
  simp only[V,if_pos hm,this]
 have hpa:=fun t=>aD9 (N:=N) vs.reverse (a:=a) (t:=t) hN ha.size;refine aPz (N:=N) (mask:=mask) (V:=V) (L:=aI (vs.reverse++σ)) hback (fun i o ho=>(hper i o ho).1) (fun i j d hm hne hi hj=>?_) (fun i o j d ho hd hl=>((hper i o ho).2.2 j d hd).2 hl) ?_ ?_ ops.size (Array.replicate ops.size false) a (rE vs.reverse a) _ (oF ops mask) ?_ aE (fun j hj=>.inr (by simp[hj])) ?_ ?_ (aKm ops mask) hchain ?_ (hT _ _ (aGn vs.reverse hN ha) hst.drew)
 ·have his:=hdlt i d hi;have hoi:ops[i]? = some ops[i]:=Array.getElem?_eq_getElem his;have:=((hper i ops[i] hoi).2.2 j d hj).1 hm hne;simp only[cW,hoi,Option.bind_some]at hi;exact absurd hi this
 ·intro i o hm ho;obtain⟨k,hk⟩:=hpos i hm;obtain⟨o',d,v,q1,-,q3,q4,q5,q6⟩:=hget k i hk;rw[ho]at q1;injection q1 with q1;subst q1;refine⟨d,v,by rw[hVk k i hk hm,q3],q4,q5,fun a' ha'=>?_⟩;have hsub:∀t∈o.looksAt ops,∀u,aI ((vs.take k).reverse++σ) t=some u→a'.tmps[t]? = some u:=by
   intro t ht u hu;refine ha' t ht u ?_;have e:vs.reverse=(vs.drop k).reverse++(vs.take k).reverse:=by rw[← List.reverse_append,List.take_append_drop]
   rw[e,List.append_assoc,zE,aCu,Option.none_or]
   ·exact hu
   ·intro p hp e';obtain⟨j,hj,hje⟩:=List.getElem_of_mem (List.mem_reverse.1 hp);have hvj:vs[k+j]? = some (t,p.2):=by rw[← List.getElem?_drop,List.getElem?_eq_getElem hj,hje,← e']
    obtain⟨i',hi'⟩:=hkey (k+j) (List.getElem?_eq_some_iff.1 hvj).1;obtain⟨o2,d2,v2,r1,r2,r3,r4,-⟩:=hget (k+j) i' hi';rw[hvj]at r3;injection r3 with r3;injection r3 with r3 _;subst r3;have hlt:=(((hper i o ho).2.2 i' t (by simp[cW,r1,r4])).2 ht).1 r2;rcases Nat.eq_zero_or_pos j with h0|h0
    ·subst h0;rw[Nat.add_zero,hk]at hi';injection hi' with hi';omega
    ·have:=List.pairwise_iff_getElem.1 hinc k (k+j) (List.getElem?_eq_some_iff.1 hk).1 (List.getElem?_eq_some_iff.1 hi').1 oo;rw[(List.getElem?_eq_some_iff.1 hk).2,(List.getElem?_eq_some_iff.1 hi').2]at this;omega
  rcases q6 with⟨q6,q7⟩ | ⟨q6,q7⟩
  ·refine .inl ⟨vL hsub q6,fun w'=>q7 _ (fun x hx u hu=>?_) w'⟩;cases x with
   | tmp t =>
    have:=hsub t (List.mem_append_left _ (List.mem_filterMap.2 ⟨.tmp t,hx,rfl⟩)) u hu;simp[Act.eval,this]
   | const u=>simpa [ev,Act.eval] using hu
   | global g=>simpa [ev,Act.eval] using hu
   | func f=>simpa [ev,Act.eval] using hu
  ·exact .inr ⟨vL hsub q6,q7⟩
 ·intro i d v hV;simp only[V]at hV;split at hV
  ·rename_i hm;obtain⟨k,hk⟩:=hpos i hm;have:=hVk k i hk hm;simp only[V,if_pos hm]at this;rw[this]at hV;obtain⟨o',d',v',q1,-,q3,q4,-,-⟩:=hget k i hk;rw[hV]at q3;injection q3 with q3;injection q3 with q3 _;subst q3;exact⟨hm,by simp[cW,q1,q4]⟩
  ·cases hV
 ·unfold qH;exact Nat.le_trans (List.length_filter_le _ _) aE
 ·intro j hj;obtain⟨q1,q2⟩:=List.mem_filter.1 hj;have:=List.mem_range.1 q1;exact⟨this,by simpa using q2,by simp[this]⟩
 ·intro j hj hm _;exact List.mem_filter.2 ⟨List.mem_range.2 hj,by simp[hm]⟩
 ·refine⟨ha.size,(hpa 0).2.1,(hpa 0).2.2.symm,fun t ht=>?_,fun j d v hV=>?_,fun t u hu _=>?_⟩
  ·rw[(hpa t).1,aCu,Option.none_or];intro p hp e;obtain⟨k,hk,hke⟩:=List.getElem_of_mem (List.mem_reverse.1 hp);obtain⟨i,hi⟩:=hkey k hk;obtain⟨o,d,v,q1,q2,q3,q4,q5,-⟩:=hget k i hi;rw[List.getElem?_eq_getElem hk,hke]at q3;injection q3 with q3;subst q3;exact ht i d q2 (by simp[cW,q1,q4]) (by simp[hmlt i q2]) e
  ·simp only[V]at hV;split at hV
   ·rename_i hm;rw[(hpa d).1,hlookv _ d v hV];rfl
   ·cases hV
  ·rw[(hpa t).1];rw[zE]at hu;cases hl:aI vs.reverse t with
   | some u'=>rw[hl]at hu;simpa using hu
   | none=>rw[hl]at hu;exact ha.at_ t u (by simpa using hu)
