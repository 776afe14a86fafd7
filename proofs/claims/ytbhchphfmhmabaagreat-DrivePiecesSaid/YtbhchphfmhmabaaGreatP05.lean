import Derived.Laws.BytesArg
import Derived.Laws.Strings
import Derived.Laws.Pointers
import Derived.Laws.CopyRow
import Derived.Laws.MakeOwn
import Derived.Laws.Slices
import Derived.Test.YtbhchphfmhmabaaGreatP04
set_option maxHeartbeats 512000000
set_option maxRecDepth 4000
set_option linter.unusedVariables false
set_option linter.unusedSimpArgs false
namespace Go.Proofs.YtbhchphfmhmabaaGreat
open Go.RowKit
def dL(xs:List Int):Prop:=∀x∈xs,0≤x∧x<256
section
variable {P:Program} {w0:World} {W:Nat→Prop} {H:List HE}
theorem aZf{F:Fence}{n N:Nat}{ds:List Deferred}{σ:List (Nat×Value)}{ty:TypeId}{pos:String}{aft:Array Edge}{gd:Option (Nat×Bool)}{K:Act→World→Prop}{Q:Exit→Act→World→Prop}{R:List HE}[aU F]{t sz bs:Nat}{z:Value}{x y:Operand}{b q tb:Nat}{cs vs cs':List Value}[hI:bF P t sz bs z]
  (hx:ev σ x=some (.pointer (some ⟨b,q,none⟩))) (hy:ev σ y=some (.agg vs.toArray)) (h1:∀v∈vs,v.oneCell'=true) (hm:aP H (.blk b tb cs) R) (hl:vs.length=sz) (ho:cs.take q++vs++cs.drop (q+vs.length)=cs') (hq:q+vs.length≤cs.length)
  (h:J N ds w0 W σ (.blk b tb cs'::R) K):OJ F n P N ds w0 W σ H ⟨none,.store t x y,ty,pos,aft,gd⟩ K Q :=
 aG9 aE rfl (fun a w ha hw=>by have hb:w.heap[b]? = some (.cells cs.toArray tb (0,0)):=hw.has hm;obtain⟨i,e1,-,e2,-⟩:=hI.h;have hst:=run_storeCells_at P b q tb vs 0 cs.toArray w hb (by simpa using hq) h1;simp only[Nat.add_zero]at hst;refine⟨w.setRow b (cs.take q++vs++cs.drop (q+vs.length)).toArray,by simp only[execOp,ha.eval hx,ha.eval hy,Instr.storeAt,Instr.sureAddr,storeVar,sizeOf,typeInfo,Sem.run_bind,Sem.run_pure,Result.andThen_ok];simp[e1,e2,hl,Value.cells,hst],?_⟩;subst ho;refine hw.turn hm ?_ rfl rfl rfl aE (fun k _ hk=>setRow_other _ _ _ _ (fun e=>hk (by rw[e];rfl))) (.inl rfl);exact setRow_heap w b _ _ tb _ hb) h
instance (priority:=100) (t tb b q sz bs:Nat)(z:Value)(x y:Operand)(cs vs cs':List Value)(k:HE→List HE)[bF P t sz bs z][hl:uG vs sz][h1:rM vs][h:At b H tb cs k][hs:jD cs q vs cs']:SS P w0 W H (.store t x y) [.pointer (some ⟨b,q,none⟩),.agg vs.toArray] (k (.blk b tb cs')) True :=
 ⟨fun _ _ _ _ _ _ _ _ _ _ _ _ _ k1 k3=>let ⟨_,h4,h5⟩:=h.h;let ⟨p1,p2⟩:=dP k1;aZf (t:=t) p1 p2 h1.h h4 hl.h hs.h.1 hs.h.2 (jP (h5 _) k3)⟩
end
section
variable {F:Fence} {n:Nat} {P:Program} {N:Nat} {ds:List Deferred} {w0:World} {W:Nat→Prop} {σ:List (Nat×Value)} {H:List HE} {Q:Exit→Act→World→Prop}
variable {ops:Array Oper} {rest:List Oper} {d:Nat} {ty:TypeId} {pos:String} {aft:Array Edge} {gd:Option (Nat×Bool)} {v:Value}
theorem tQ[aU F]{c x y:Operand}(hw:bT ops σ ⟨some d,.pick c x y,ty,pos,aft,gd⟩=some true)(hc:ev σ c=some (.bool true))(hx:ev σ x=some v)(hdN:Nat.blt d N=true)(h:J N ds w0 W ((d,v)::σ) H (wpListIn F n P ops Q rest)):
  J N ds w0 W σ H (wpListIn F n P ops Q (⟨some d,.pick c x y,ty,pos,aft,gd⟩::rest)):=jZ hw (aGx hc hx hdN h)
theorem tP[aU F]{c x y:Operand}(hw:bT ops σ ⟨some d,.pick c x y,ty,pos,aft,gd⟩=some true)(hc:ev σ c=some (.bool false))(hx:ev σ y=some v)(hdN:Nat.blt d N=true)(h:J N ds w0 W ((d,v)::σ) H (wpListIn F n P ops Q rest)):
  J N ds w0 W σ H (wpListIn F n P ops Q (⟨some d,.pick c x y,ty,pos,aft,gd⟩::rest)):=jZ hw (aGw hc hx hdN h)
theorem aA.swapIn{x:HE}{H R1:List HE}(h:aP H x R1):∀{Z:List HE},aA R1 Z→aA H (x::Z):=by
 induction h with
 | here x r=>intro Z k;exact .cons (.here _ _) k
 | there y h ih =>
  intro Z k;cases k with
  | cons hz k2=>exact .cons (.there _ hz) (ih k2)
theorem aC.back{S R:List HE}(h:aC H S R):aA H (S++R):=by
 induction h with
 | nil H=>exact aA.refl _
 | cons h _ ih=>exact aA.swapIn h ih
variable {dst:Nat} {f:FuncId} {args:Array Operand} {ts:Array TypeId} {us:List Value} {S R:List HE} {Rl:Value→List HE→Prop}
theorem lk[aU F][WF F][Cl P f]
  (hw:bT ops σ ⟨some dst,.call ⟨.value (.func f),args,ts⟩,ty,pos,aft,gd⟩=some true) (hv:vals σ args.toList=some us) (hdN:Nat.blt dst N=true)
  (hc:∀w,St w0 W H w→aZ S w→aF P f us S w fun u S'=>u=v∧S'=S) [hs:uI H S R] (h:J N ds w0 W ((dst,v)::σ) H (wpListIn F n P ops Q rest)) :
  J N ds w0 W σ H (wpListIn F n P ops Q (⟨some dst,.call ⟨.value (.func f),args,ts⟩,ty,pos,aft,gd⟩::rest)):=sC hw hv hs.h hs.h.back hdN hc h
theorem hk[aU F][WF F][Cl P f]{T:List (Nat×Value)→Prop}
  (hw:bT ops σ ⟨some dst,.call ⟨.value (.func f),args,ts⟩,ty,pos,aft,gd⟩=some true) (hv:vals σ args.toList=some us) (hdN:Nat.blt dst N=true)
  (hc:∀w,St w0 W H w→aZ S w→aF P f us S w fun u S'=>u=v∧S'=S) [hs:uI H S R] (h:bM F n P N ds w0 W H ops rest ((dst,v)::σ) T) :
  bM F n P N ds w0 W H ops (⟨some dst,.call ⟨.value (.func f),args,ts⟩,ty,pos,aft,gd⟩::rest) σ T:=hfk hw hv hs.h hs.h.back hdN hc h
theorem lf[aU F][WF F][Cl P f]
  (hw:bT ops σ ⟨some dst,.call ⟨.value (.func f),args,ts⟩,ty,pos,aft,gd⟩=some true) (hv:vals σ args.toList=some us) (hdN:Nat.blt dst N=true)
  (hc:∀w,St w0 W H w→aZ S w→aF P f us S w Rl) [hs:uI H S R] (h:∀v S',Rl v S'→J N ds w0 W ((dst,v)::σ) (S'++R) (wpListIn F n P ops Q rest)) :
  J N ds w0 W σ H (wpListIn F n P ops Q (⟨some dst,.call ⟨.value (.func f),args,ts⟩,ty,pos,aft,gd⟩::rest)):=fO hw hv hs.h hdN hc h
end
theorem aW0(k:IntKind)(m:Nat):(madeCells (Value.int k 0).cells m).toList=aD k (List.replicate m 0):=by simp only[madeCells,aD,Value.cells,Array.toList_map,Array.toList_range,List.map_replicate];apply List.ext_getElem aE;intro i h1 h2;simp[Nat.mod_one]
section
variable {P:Program} {w0:World} {W:Nat→Prop} {H:List HE}
theorem aZ3{F:Fence}{n N:Nat}{ds:List Deferred}{σ:List (Nat×Value)}{d:Nat}{ty:TypeId}{pos:String}{aft:Array Edge}{gd:Option (Nat×Bool)}{K:Act→World→Prop}{Q:Exit→Act→World→Prop}[aU F]{t e bs:Nat}{k kl kc:IntKind}{x y:Operand}{m:Nat}{l c:Int}[aN P t (.slice e)][hI:bF P e 1 bs (.int k 0)]
  (hl:l=(m:Int)) (hcc:c=(m:Int)) (hc:bs*m≤281474976710656∧m≤4611686018427387904) (hv:vals σ [x,y]=some [.int kl l,.int kc c]) (hdN:Nat.blt d N=true)
  (h:∀b,J N ds w0 W ((d,.slice (some ⟨b,0,none⟩) m m)::σ) (.row (.slice (some ⟨b,0,none⟩) m m) e 1 m (aD k (List.replicate m 0))::H) K):OJ F n P N ds w0 W σ H ⟨some d,.makeSlice t x y,ty,pos,aft,gd⟩ K Q :=
 aAy aE rfl hdN (fun b=>.slice (some ⟨b,0,none⟩) m m) (aD k (List.replicate m 0)) e (fun a w ha _=>by
  subst hl;subst hcc;obtain⟨p,q⟩:=dP hv;obtain⟨i,e1,e2,e3,e4⟩:=hI.h;have hrun:=run_make (P:=P) w t e i _ aN.h e1 e2 kl kc (m:Int) (m:Int) oo oo (by rw[e4];have:=hc.1;push_cast;omega) (by have:=hc.2;omega);rw[Int.toNat_natCast,e3,Nat.mul_one]at hrun;have em:madeCells (Value.int k 0).cells m=(aD k (List.replicate m 0)).toArray:=by apply Array.ext';rw[aW0]
  rw[em]at hrun;simp only[execOp,ha.eval p,ha.eval q,Sem.run_bind,hrun,Result.andThen_ok,Sem.run_pure]) (fun b=>aFu aE (by have:=hc.2;simp only[maxLen];omega) (h b))
instance (t e bs:Nat)(k kl kc:IntKind)(x y:Operand)(m:Nat)[aN P t (.slice e)][bF P e 1 bs (.int k 0)]:NS P w0 W H (.makeSlice t x y) [.int kl (m:Int),.int kc (m:Int)] (fun b=>.slice (some ⟨b,0,none⟩) m m) (fun b=>.row (.slice (some ⟨b,0,none⟩) m m) e 1 m (aD k (List.replicate m 0))::H) (bs*m≤281474976710656∧m≤4611686018427387904) :=
 ⟨fun hc _ _ _ _ _ _ _ _ _ _ _ _ _ k1 k2 k3=>aZ3 rfl rfl hc k1 k2 k3⟩
def nV(A:Option Addr)(l c s:Nat):Option Addr:=if c=l then A else A.map (·.add (l*s))
theorem bP.sub{A:Option Addr}{m c l h:Nat}{k:IntKind}{xs:List Int}(hr:bP w0 W A m c 1 (aD k xs))(hlh:l≤h)(hm:h≤m):bP w0 W (nV A l c 1) (h-l) (c-l) 1 (aD k ((xs.drop l).take (h-l))):=by
 obtain⟨A',c',e1,h1,h2,h3,h4⟩:=hr.h;injection e1 with e1 e2 e3;subst e1 e3;have hxl:xs.length=m:=by simpa using h3
 refine⟨nV A l c 1,c-l,rfl,oo,oo,by simp;omega,fun hpos=>?_⟩;obtain⟨b,off,rfl,h5,h6,h7⟩:=h4 oo;refine⟨b,off+l,?_,h5,h6,fun j v hj=>?_⟩
 ·unfold nV;rw[if_neg oo];simp[pL]
 ·rw[Nat.add_assoc];refine h7 (l+j) v ?_;simp only[aD,List.getElem?_map,List.getElem?_take,List.getElem?_drop]at hj ⊢;split at hj
  ·exact hj
  ·simp at hj
theorem bAi{w:World}{t e sz bs:Nat}{z:Value}[aN P t (.slice e)][hI:bF P e sz bs z]{A:Option Addr}{m c:Nat}(lo hi:Option Value)(l h:Nat)
  (hb:(Instr.sliceBounds true m c lo hi none).run P w=.ok (l,h,c) w):(Instr.slice t (.slice A m c) lo hi none).run P w=.ok (.slice (nV A l c sz) (h-l) (c-l)) w:=by
 obtain⟨i,e1,-,e2,-⟩:=hI.h;have ht:=aN.h (P:=P) (t:=t);simp only[Instr.slice,Sem.run_bind,run_underlying ht,Result.andThen_ok,hb,sizeOf,typeInfo];simp[e1,e2,nV]
theorem aT0{t e:TypeId}[h:aN P t (.slice e)]:P.underlying t=some (.slice (P.elem t)):=by have:=h.h;rw[this,Program.elem,this]
theorem aHa{w:World}{t e sz bs:Nat}{z:Value}[aN P t (.slice e)][hI:bF P e sz bs z]{A:Option Addr}{m c:Nat}(lo hi:Option Value)(l h:Nat)
  (hb:(Instr.sliceBounds true m c lo hi none).run P w=.ok (l,h,c) w):(Instr.sliceAt t (.slice A m c) lo hi none).run P w=.ok (.slice (nV A l c sz) (h-l) (c-l)) w:=by
 rw[run_sliceAt_slice w t _ _ _ _ (aT0 (e:=e))];exact bAi (z:=z) (bs:=bs) lo hi l h hb
theorem aQp{w:World}{m c l h:Nat}{k k':IntKind}(h1:l≤h)(h2:h≤c):(Instr.sliceBounds true m c (some (.int k (l:Int))) (some (.int k' (h:Int))) none).run P w=.ok (l,h,c) w:=by simp[Instr.sliceBounds,run_sliceBound,(by omega:(0:Int)≤(l:Int)),(by omega:(0:Int)≤(h:Int)),h1,h2]
theorem aQo{w:World}{m c l:Nat}{k:IntKind}(h1:l≤m):(Instr.sliceBounds true m c (some (.int k (l:Int))) none none).run P w=.ok (l,m,c) w:=by simp[Instr.sliceBounds,run_sliceBound,(by omega:(0:Int)≤(l:Int)),h1]
theorem aQn{w:World}{m c h:Nat}{k':IntKind}(h2:h≤c):(Instr.sliceBounds true m c none (some (.int k' (h:Int))) none).run P w=.ok (0,h,c) w:=by simp[Instr.sliceBounds,run_sliceBound,(by omega:(0:Int)≤(h:Int)),h2]
instance (t e sz bs m c l h:Nat)(z:Value)(k k':IntKind)(x lo hi:Operand)(A:Option Addr)[aN P t (.slice e)][bF P e sz bs z]:MS P w0 W H (.slice t x (some lo) (some hi) none) [.slice A m c,.int k (l:Int),.int k' (h:Int)] (.slice (nV A l c sz) (h-l) (c-l)) (l≤h∧h≤c) :=
 ⟨fun hc _ _ _ _ _ _ _ _ _ _ _ _ _ h1 h2 h3=>dW aE rfl h2 (fun a w ha hw=>by obtain⟨p,q,r⟩:=aHr h1;simp only[execOp,Option.map_some,Option.map_none];rw[ha.eval p,show a.eval lo=_ from ha.eval q,show a.eval hi=_ from ha.eval r];simp only[Sem.run_bind,aHa (P:=P) (t:=t) (z:=z) (bs:=bs) _ _ l h (aQp hc.1 hc.2),Result.andThen_ok,Sem.run_pure]) h3⟩
instance (t e sz bs m c l:Nat)(z:Value)(k:IntKind)(x lo:Operand)(A:Option Addr)[aN P t (.slice e)][bF P e sz bs z]:MS P w0 W H (.slice t x (some lo) none none) [.slice A m c,.int k (l:Int)] (.slice (nV A l c sz) (m-l) (c-l)) (l≤m) :=
 ⟨fun hc _ _ _ _ _ _ _ _ _ _ _ _ _ h1 h2 h3=>dW aE rfl h2 (fun a w ha hw=>by obtain⟨p,q⟩:=dP h1;simp only[execOp,Option.map_some,Option.map_none];rw[ha.eval p,show a.eval lo=_ from ha.eval q];simp only[Sem.run_bind,aHa (P:=P) (t:=t) (z:=z) (bs:=bs) _ _ l m (aQo hc),Result.andThen_ok,Sem.run_pure]) h3⟩
instance (t e sz bs m c h:Nat)(z:Value)(k':IntKind)(x hi:Operand)(A:Option Addr)[aN P t (.slice e)][bF P e sz bs z]:MS P w0 W H (.slice t x none (some hi) none) [.slice A m c,.int k' (h:Int)] (.slice (nV A 0 c sz) (h-0) (c-0)) (h≤c) :=
 ⟨fun hc _ _ _ _ _ _ _ _ _ _ _ _ _ h1 h2 h3=>dW aE rfl h2 (fun a w ha hw=>by obtain⟨p,q⟩:=dP h1;simp only[execOp,Option.map_some,Option.map_none];rw[ha.eval p,show a.eval hi=_ from ha.eval q];simp only[Sem.run_bind,aHa (P:=P) (t:=t) (z:=z) (bs:=bs) _ _ 0 h (aQn hc),Result.andThen_ok,Sem.run_pure]) h3⟩
def lay(zs:List Int)(l:Nat)(ys:List Int):List Int:=zs.take l++ys++zs.drop (l+ys.length)
theorem aL7(zs:List Int)(l:Nat)(ys:List Int)(h:l+ys.length≤zs.length):(lay zs l ys).length=zs.length:=by simp[lay];omega
theorem aUq(k:IntKind)(xs:List Int)(n:Nat):(aD k xs).take n=aD k (xs.take n):=by simp[aD,List.map_take]
theorem aKp(k:IntKind)(xs:List Int)(n:Nat):(aD k xs).drop n=aD k (xs.drop n):=by simp[aD,List.map_drop]
theorem aKo(k:IntKind)(xs ys:List Int):aD k xs++aD k ys=aD k (xs++ys):=by simp[aD]
theorem aYw{F:Fence}{n N:Nat}{ds:List Deferred}{σ:List (Nat×Value)}{d:Nat}{ty:TypeId}{pos:String}{aft:Array Edge}{gd:Option (Nat×Bool)}{K:Act→World→Prop}{Q:Exit→Act→World→Prop}[hF:aU F]{t e bs m c l dl dc j:Nat}{z u:Value}{k:IntKind}{A:Option Addr}{zs ys:List Int}{x y:Operand}{kk:HE→List HE}[aN P t (.slice e)][hI:bF P e 1 bs z]
  [ho:xI A m c H e 1 (aD k zs) kk] [hs:vR w0 W H e 1 u j (aD k ys)] (hv:vals σ [x,y]=some [.slice (nV A l c 1) dl dc,u]) (hc:l+dl≤m∧m≤c∧j≤dl) (hdN:Nat.blt d N=true)
  (h:J N ds w0 W ((d,.int .i64 j)::σ) (kk (.row (.slice A m c) e 1 m (aD k (lay zs l ys)))) K):OJ F n P N ds w0 W σ H ⟨some d,.call ⟨.builtin .copy,#[x,y],#[t,t]⟩,ty,pos,aft,gd⟩ K Q:=by
 obtain⟨R,h2,h3⟩:=ho.h;intro a w ha hw;obtain⟨p,q⟩:=dP hv;obtain⟨A',c',rfl,-,-,e2,e3⟩:=hs.h w hw;have hyl:ys.length=j:=by simpa using e2
 obtain⟨hzl0,hrow⟩:=hw.has h2;have hzl:zs.length=m:=by simpa using hzl0
 have hinf:(P.info? e).map (·.size)=some 1:=bF.size (z:=z) (bs:=bs);have hut:=aN.h (P:=P) (t:=t);have key:∃w',(Builtin.copy_ #[t,t] ty #[.slice (nV A l c 1) dl dc,.slice A' j c']).run P w=.ok (goInt j) w'∧St w0 W (.row (.slice A m c) e 1 m (aD k (lay zs l ys))::R) w':=by
  rcases Nat.eq_zero_or_pos j with h0|h0
  ·subst h0;have hy0:ys=[]:=List.eq_nil_of_length_eq_zero hyl;subst hy0;refine⟨w,?_,?_⟩
   ·obtain⟨i,q1,-,q2,-⟩:=hI.h;cases hsa:nV A l c 1 with
    | none=>simp[Builtin.copy_,run_underlying hut,Builtin.lenOf,Builtin.firstCells,sizeOf,typeInfo,q1,q2];cases A'<;>simp[loadCells,loadCellsFrom]
    | some ad=>simp[Builtin.copy_,run_underlying hut,Builtin.lenOf,Builtin.firstCells,sizeOf,typeInfo,q1,q2];cases A'<;>simp[loadCells,loadCellsFrom,storeCells]
   ·have:lay zs l []=zs:=by simp[lay]
    rw[this];exact hw.perm h2.perm
  ·obtain⟨b',off',rfl,hcell⟩:=e3 h0;rcases hrow with⟨hn,-⟩ | ⟨g,cap,cur,hA,hb0,hg,hnc,hcm,hcs,hxx⟩
   ·injection hn with hn1 hn2 _;omega
   injection hA with hA1 _ hA3;subst hA1;subst hA3;have hsub:nV (some ⟨g,0,none⟩) l c 1=some ⟨g,l,none⟩:=by unfold nV;rw[if_neg oo];simp[pL]
   have hcl:cur.size=c:=by simpa using hcs
   have hrun:=run_copy_row P w t t ty e g l dl dc ⟨b',off',none⟩ j c' cur e (aD k ys) hut hinf hg (by rw[fW,hyl];exact(Nat.min_eq_left hc.2.2).symm) (fun q v hq=>by rw[pL];exact hcell q v hq w hw) (by rw[fW,hyl,hcl];omega) (by intro v hv;obtain⟨x,-,rfl⟩:=List.mem_map.1 hv;rfl);rw[hsub];refine⟨_,by rw[fW,hyl]at hrun;exact hrun,?_⟩;refine hw.turn h2 ?_ rfl rfl rfl aE (fun b _ hk=>setRow_other _ _ _ _ (fun e=>hk (by rw[e];rfl))) (.inl rfl);refine⟨by rw[fW,aL7 _ _ _ oo];omega,.inr ⟨g,c,_,rfl,hb0,setRow_heap w g _ _ e _ hg,hnc,hcm,?_,?_⟩⟩
   ·simp only[List.size_toArray,List.length_append,List.length_take,List.length_drop,Array.length_toList,fW];omega
   ·rw[Nat.mul_one]at hxx ⊢;have hcur:cur.toList=aD k zs++cur.toList.drop m:=by rw[← hxx,List.take_append_drop]
    rw[List.toList_toArray];have e5:cur.toList.take l=aD k (zs.take l):=by rw[← aUq,← hxx,List.take_take,Nat.min_eq_left oo]
    have e6:(cur.toList.drop (l+(aD k ys).length)).take (m-(l+ys.length))=aD k (zs.drop (l+ys.length)):=by rw[← aKp,← hxx,fW,List.drop_take]
    have e7:m=(aD k (zs.take l)++aD k ys).length+(m-(l+ys.length)):=by simp;omega
    rw[e5]
    conv=>lhs;rw[e7]
    rw[List.take_append,List.take_of_length_le oo,Nat.add_sub_cancel_left];rw[fW,hyl]at e6;rw[hyl,e6,aKo,aKo,lay,hyl]
 obtain⟨w',hrun,hst⟩:=key;refine⟨fun f _=>hF.out.fn f,?_⟩;rw[Oper.semAt_plain F _ _ aE];simp only[execOp,resolve,invoke,builtin,Sem.run_bind,Sem.run_pure,Result.andThen_ok,List.map_toArray,List.map_cons,List.map_nil,ha.eval p,ha.eval q,hrun,Oper.uponIn_value];exact h _ _ (ha.put d _ (by simpa using hdN)) (hst.sub (h3 _))
end
section
variable {F:Fence} {n:Nat} {P:Program} {N:Nat} {ds:List Deferred} {w0:World} {W:Nat→Prop} {σ:List (Nat×Value)} {H:List HE} {Q:Exit→Act→World→Prop}
variable {ops:Array Oper} {rest:List Oper} {d:Nat} {ty:TypeId} {pos:String} {aft:Array Edge} {gd:Option (Nat×Bool)} {q:Act→World→Prop}
theorem lcp[aU F]{t e bs m c l dl dc j:Nat}{z u:Value}{k:IntKind}{A:Option Addr}{zs ys:List Int}{x y:Operand}{kk:HE→List HE}[aN P t (.slice e)][bF P e 1 bs z]
  (hw:bT ops σ ⟨some d,.call ⟨.builtin .copy,#[x,y],#[t,t]⟩,ty,pos,aft,gd⟩=some true) (hv:vals σ [x,y]=some [.slice (nV A l c 1) dl dc,u]) [ho:xI A m c H e 1 (aD k zs) kk] [hs:vR w0 W H e 1 u j (aD k ys)] (hc:l+dl≤m∧m≤c∧j≤dl) (hdN:Nat.blt d N=true)
  (h:J N ds w0 W ((d,.int .i64 j)::σ) (kk (.row (.slice A m c) e 1 m (aD k (lay zs l ys)))) (wpListIn F n P ops Q rest)) :
  J N ds w0 W σ H (wpListIn F n P ops Q (⟨some d,.call ⟨.builtin .copy,#[x,y],#[t,t]⟩,ty,pos,aft,gd⟩::rest)):=jZ hw (aYw (z:=z) (bs:=bs) hv hc hdN h)
theorem aAo{A:Option Addr}{m c:Nat}{k:IntKind}{xs:List Int}(l h:Nat)(hr:bP w0 W A m c 1 (aD k xs))(hlh:l≤h∧h≤m)(hq:bP w0 W (nV A l c 1) (h-l) (c-l) 1 (aD k ((xs.drop l).take (h-l)))→J N ds w0 W σ H q):J N ds w0 W σ H q:=hq (hr.sub hlh.1 hlh.2)
end
section
variable {n:Nat} {P:Program} {N:Nat} {w0:World} {W:Nat→Prop} {σ:List (Nat×Value)} {H:List HE}
theorem bA0{fn:Func}{t u v x:Tmp}(h:fn.results=#[.tmp t,.tmp u,.tmp v,.tmp x])(tmps:Array Value)(P:Program)(w:World):(results fn tmps).run P w=.ok (.tuple #[tmps.getD t undef,tmps.getD u undef,tmps.getD v undef,tmps.getD x undef]) w:=by simp[results,h]
theorem aAn{fn:Func}{t u y q:Tmp}{v x z k:Value}{S':List HE}{Rl:Value→List HE→Prop}(hres:fn.results=#[.tmp t,.tmp u,.tmp y,.tmp q])(hv:aI σ t=some v)(hx:aI σ u=some x)(hz:aI σ y=some z)(hk:aI σ q=some k)(hs:aA S' H)(hR:Rl (.tuple #[v,x,z,k]) S'):J N [] w0 W σ H (bodyPost P fn (fun e w'=>∃v S',e=.returned v∧Rl v S'∧St w0 W S' w') .ret) :=
 fun a w ha hw=>⟨ha.defers,_,bA0 hres _ _ _,_,S',by rw[qV ha hv,qV ha hx,qV ha hz,qV ha hk],hR,hw.sub hs⟩
end
class LV(P:Program)(w0:World)(W:Nat→Prop)(H:List HE)(op:Op)(vs:List Value)(v:outParam Value)(c:outParam Prop):Prop where
 h:c→∀(ρ:Operand→Value) (o:Oper),o.op=op→op.operands.toList.map ρ=vs→∀w,St w0 W H w→(execOp ρ o).run P w=.ok (.value v) w
section
variable {P:Program} {w0:World} {W:Nat→Prop} {H:List HE}
instance (priority:=50) (op:Op)(vs:List Value)(v:Value)(c:Prop)[h:PV P op vs v c]:LV P w0 W H op vs v c:=⟨fun hc ρ o e hv w _=>h.h hc ρ o e hv w⟩
theorem aFy{t:TypeId}{dd:TypeDesc}{x:Operand}{b q:Nat}{v:Value}[aN P t dd](ha:oO dd=false)(hc:mL w0 W H b q v):∀(ρ:Operand→Value) (o:Oper),o.op=.load t x→(Op.load t x).operands.toList.map ρ=[.pointer (some ⟨b,q,none⟩)]→∀w,St w0 W H w→(execOp ρ o).run P w=.ok (.value v) w:=by rintro ρ ⟨dst,op',ty,pos,aft,gd⟩ rfl h w hw;simp[execOp,pW h,Instr.loadAt,Instr.sureAddr,aN8 (aN.h (P:=P) (t:=t)) ha (hc w hw)]
theorem aVx{t sz bs:Nat}{z:Value}{dd:TypeDesc}{x:Operand}{b q:Nat}{cs:List Value}[aN P t dd][bF P t sz bs z](ha:oO dd=true)(hc:mO w0 W H b q cs)(hl:cs.length=sz):∀(ρ:Operand→Value) (o:Oper),o.op=.load t x→(Op.load t x).operands.toList.map ρ=[.pointer (some ⟨b,q,none⟩)]→∀w,St w0 W H w→(execOp ρ o).run P w=.ok (.value (.agg cs.toArray)) w:=by
 rintro ρ ⟨dst,op',ty,pos,aft,gd⟩ rfl h w hw;have hr:dd.isRow=true:=by cases dd<;>simp_all [oO]
 have:=run_loadAt_mid (P:=P) w b q t cs dd (hc w hw) (aN.h (P:=P) (t:=t)) hr (by rw[hl];exact bF.size);simp[execOp,pW h,this]
instance (priority:=100) (t tb b q:Nat)(dd:TypeDesc)(x:Operand)(v:Value)(cs:List Value)(k:HE→List HE)[aN P t dd][hd:qJ dd][h:At b H tb cs k][hg:dG cs q v]:LV P w0 W H (.load t x) [.pointer (some ⟨b,q,none⟩)] v True :=
 ⟨fun _=>let ⟨_,h4,_⟩:=h.h;aFy (t:=t) hd.h (mL.blk h4 hg.h)⟩
instance (priority:=100) (t tb b q sz bs:Nat)(z:Value)(dd:TypeDesc)(x:Operand)(o cs:List Value)(k:HE→List HE)[aN P t dd][hd:gP dd][bF P t sz bs z][h:At b H tb cs k][hg:lL cs q sz o]:LV P w0 W H (.load t x) [.pointer (some ⟨b,q,none⟩)] (.agg o.toArray) True :=
 ⟨fun _=>let ⟨_,h4,_⟩:=h.h;aVx (t:=t) hd.h (mO.cut h4 hg.h.1) hg.h.2⟩
instance (priority:=50) (t b q m c e s:Nat)(dd:TypeDesc)(x:Operand)(v:Value)(p:Prop)(xs:List Value)(k:HE→List HE)[aN P t dd][hd:qJ dd][h:xC b H m c e s xs k][hg:rI xs q v p]:LV P w0 W H (.load t x) [.pointer (some ⟨b,q,none⟩)] v p :=
 ⟨fun hc=>let ⟨_,h4,_⟩:=h.h;aFy (t:=t) hd.h (mL.row h4 (hg.h hc))⟩
instance (priority:=30) (t b q:Nat)(dd:TypeDesc)(x:Operand)(v:Value)(p:Prop)[aN P t dd][hd:qJ dd][hr:aE6 w0 W b q v p]:LV P w0 W H (.load t x) [.pointer (some ⟨b,q,none⟩)] v p :=
 ⟨fun hc=>let ⟨e1,e2,e3⟩:=hr.h hc;aFy (t:=t) hd.h (mL.old e1 e2 e3)⟩
instance (s f off b q r:Nat)(x:Operand)[hfa:Fa P s f off][hr:nG q off r]:LV P w0 W H (.fieldAddr s x f) [.pointer (some ⟨b,q,none⟩)] (.pointer (some ⟨b,r,none⟩)) True:=⟨by rintro _ ρ ⟨dst,op',ty,pos,aft,gd⟩ rfl h w _;obtain⟨fs,fld,i,h1,h2,h3,h4,h5⟩:=hfa.h;rw[← hr.h];simp[execOp,pW h,Instr.fieldAt,run_underlying h1,h2,Instr.sureAddr,fieldPlace,sizeOf,typeInfo,h3,h4,h5,pL]⟩
instance (priority:=100) (x y:Operand)(t e b q m c sz bs j r r':Nat)(z:Value)(k:IntKind)[hu:aN P t (.slice e)][hI:bF P e sz bs z][hm:rL j sz r][hr:nG q r r']:LV P w0 W H (.indexAddr t x y) [.slice (some ⟨b,q,none⟩) m c,.int k (j:Int)] (.pointer (some ⟨b,r',none⟩)) (j<m):=⟨by rintro hi ρ ⟨dst,op',ty,pos,aft,gd⟩ rfl h w _;obtain⟨hx,hy⟩:=sK h;have h1:=hu.h;obtain⟨ii,h2,-,h3,-⟩:=hI.h;rw[← hr.h,← hm.h];simp[execOp,hx,hy,Instr.indexAt,run_underlying h1,asIntOf,sizeOf,typeInfo,h2,h3,hi,pL]⟩
instance (x:Operand)(p:Addr):LV P w0 W H (.nilCheck x) [.pointer (some p)] (.pointer (some p)) True:=⟨by rintro _ ρ ⟨dst,op',ty,pos,aft,gd⟩ rfl h w _;simp[execOp,pW h,Instr.sureAddr]⟩
end
def LQ(P:Program)(w0:World)(W:Nat→Prop)(H:List HE)(σ:List (Nat×Value))(o:Oper)(v:Value):Prop :=
 ∀ρ:Operand→Value,(∀x∈o.op.operands.toList,∀u,ev σ x=some u→ρ x=u)→∀w,St w0 W H w→(execOp ρ o).run P w=.ok (.value v) w
theorem aFx{P:Program}{w0:World}{W:Nat→Prop}{H:List HE}{σ:List (Nat×Value)}{o:Oper}{vs:List Value}{v:Value}{c:Prop}[hp:LV P w0 W H o.op vs v c](hv:vals σ o.op.operands.toList=some vs)(hc:c):LQ P w0 W H σ o v:=by
 intro ρ h w hw;refine hp.h hc ρ o rfl ?_ w hw;have key:∀(l:List Operand) (vs:List Value),vals σ l=some vs→(∀x∈l,∀u,ev σ x=some u→ρ x=u)→l.map ρ=vs:=by
  intro l
  induction l with
  | nil=>intro vs hv _;simp[vals]at hv;simp[hv]
  | cons x r ih =>
   intro vs hv h;simp only[vals]at hv;cases hx:ev σ x with
   | none=>simp[hx]at hv
   | some u =>
    cases hr:vals σ r with
    | none=>simp[hx,hr]at hv
    | some us =>
     simp[hx,hr]at hv;subst hv;rw[List.map_cons,h x (List.mem_cons_self ..) u hx,ih us hr fun y hy=>h y (List.mem_cons_of_mem _ hy)]
 exact key _ _ hv h
def fR(P:Program)(N:Nat)(w0:World)(W:Nat→Prop)(HL:List HE)(ops:Array Oper):List Oper→List (Nat×Value)→(List (Nat×Value)→Prop)→Prop
 | [],σ,T=>T σ
 | o::rest,σ,T=>∃d v,o.dst=some d∧d<N∧((bT ops σ o=some true∧LQ P w0 W HL σ o v)∨(bT ops σ o=some false∧v=undef))∧fR P N w0 W HL ops rest ((d,v)::σ) T
section
variable {P:Program} {N:Nat} {w0:World} {W:Nat→Prop} {HL:List HE} {ops:Array Oper} {σ:List (Nat×Value)} {T:List (Nat×Value)→Prop}
theorem fC(h:T σ):fR P N w0 W HL ops [] σ T:=h
theorem fM{rest:List Oper}{d:Nat}{op:Op}{ty:TypeId}{pos:String}{aft:Array Edge}{gd:Option (Nat×Bool)}{vs:List Value}{v:Value}{c:Prop}
  (hw:bT ops σ ⟨some d,op,ty,pos,aft,gd⟩=some true) (hv:vals σ op.operands.toList=some vs) [hp:LV P w0 W HL op vs v c] (hdN:Nat.blt d N=true) (hc:c) (h:fR P N w0 W HL ops rest ((d,v)::σ) T):fR P N w0 W HL ops (⟨some d,op,ty,pos,aft,gd⟩::rest) σ T :=
 ⟨d,v,rfl,by simpa using hdN,.inl ⟨hw,aFx (vs:=vs) (c:=c) hv hc⟩,h⟩
theorem fN{rest:List Oper}{d:Nat}{o:Oper}(hd:o.dst=some d)(hdN:Nat.blt d N=true)(hw:bT ops σ o=some false)(h:fR P N w0 W HL ops rest ((d,undef)::σ) T):fR P N w0 W HL ops (o::rest) σ T :=
 ⟨d,undef,hd,by simpa using hdN,.inr ⟨hw,rfl⟩,h⟩
end
theorem aVv{P:Program}{w0:World}{W:Nat→Prop}{HL:List HE}{σ τ:List (Nat×Value)}{o:Oper}{v:Value}(he:∀t,aI σ t=aI τ t)(h:LQ P w0 W HL σ o v):LQ P w0 W HL τ o v:=fun ρ hρ w hw=>h ρ (fun x hx u hu=>hρ x hx u (by cases x<;>simp only[ev]at hu ⊢<;>first|(rw[← he];exact hu)|exact hu)) w hw
theorem fR.ext{P:Program}{N:Nat}{w0:World}{W:Nat→Prop}{HL:List HE}{ops:Array Oper}{ds:List Deferred}{H:List HE}{k:Act→World→Prop}: ∀(l:List Oper) (σ τ:List (Nat×Value)),(∀t,aI σ t=aI τ t)→fR P N w0 W HL ops l σ (fun τ=>J N ds w0 W τ H k)→fR P N w0 W HL ops l τ (fun τ=>J N ds w0 W τ H k)
 | [],_,_,he,h=>J.ext he h
 | o::rest,σ,τ,he,h=>by
  obtain⟨d,v,hd,hdN,hq,hr⟩:=h;refine⟨d,v,hd,hdN,?_,fR.ext rest _ _ (aFv he d v) hr⟩;rcases hq with⟨h1,h2⟩ | ⟨h1,h2⟩
  ·exact .inl ⟨by rw[← aDu he];exact h1,aVv he h2⟩
  ·exact .inr ⟨by rw[← aDu he];exact h1,h2⟩
theorem bCu{P:Program}{N:Nat}{w0:World}{W:Nat→Prop}{HL:List HE}{ops:Array Oper}{ds:List Deferred}{H:List HE}{k:Act→World→Prop}{l:List Oper}{σ:List (Nat×Value)}(t:Nat){c:Bool}(hl:aI σ t=some (.bool c))(ht:c=true→fR P N w0 W HL ops l ((t,.bool true)::σ) (fun τ=>J N ds w0 W τ H k))
  (hf:c=false→fR P N w0 W HL ops l ((t,.bool false)::σ) (fun τ=>J N ds w0 W τ H k)):fR P N w0 W HL ops l σ (fun τ=>J N ds w0 W τ H k):=by
 cases c with
 | true=>exact fR.ext l _ _ (aAs hl) (ht rfl)
 | false=>exact fR.ext l _ _ (aAs hl) (hf rfl)
def eN(ops:Array Oper)(mask:List Bool)(i:Nat):Bool:=(List.range ops.size).all fun j=>!bY mask j||cN ops i j
def cC(F:Fence)(n:Nat)(P:Program)(w0:World)(W:Nat→Prop)(HL:List HE)(ops:Array Oper)(mask:List Bool)(Q:Exit→Act→World→Prop):Nat→List Nat→Act→World→Prop
 | 0,_,b,w=>Q .normal b w
 | m+1,rest,b,w=>(rest=[]→Q .normal b w)∧∀i∈rest,(∀j∈rest,cN ops i j=false)→wpListIn F n P ops (nq fun _ b' w'=>(eN ops mask i=true∨St w0 W HL w')∧cC F n P w0 W HL ops mask Q m (rest.erase i) b' w') (cQ ops [i]) b w
theorem aHx{F:Fence}{n:Nat}{P:Program}{w0:World}{W:Nat→Prop}{HL:List HE}{ops:Array Oper}{mask:List Bool}{Q:Exit→Act→World→Prop}{m:Nat}{b:Act}{w:World}(h:cC F n P w0 W HL ops mask Q m [] b w):Q .normal b w:=by
 cases m with
 | zero=>exact h
 | succ m=>exact h.1 rfl
def sL(ops:Array Oper)(mask:List Bool):Bool :=
 mask.length==ops.size &&
 ((List.range ops.size).all fun i=>oP ops i) &&
 ((List.range ops.size).all fun i=>match ops[i]? with
  | none=>true
  | some o=>gK o&&((List.range ops.size).all fun j=>match cW ops j with
    | none=>true
    | some d=>(match bY mask i||bY mask j,Nat.beq i j with|true,false=>o.dst != some d|_,_=>true) &&
      (!(o.looksAt ops).contains d||(match bY mask i,bY mask j with
       | _,true=>Nat.blt j i&&cN ops i j
       | true,false=>false
       | false,false=>true))) &&
    (!bY mask i||o.dst.isSome))
theorem fR.vals{P:Program}{N:Nat}{w0:World}{W:Nat→Prop}{HL:List HE}{ops:Array Oper}{T:List (Nat×Value)→Prop}: ∀(l:List Oper) (σ:List (Nat×Value)),fR P N w0 W HL ops l σ T →
  ∃(vs:List (Nat×Value)),vs.length=l.length∧T (vs.reverse++σ)∧∀k o,l[k]? = some o→∃d v,vs[k]? = some (d,v)∧o.dst=some d∧d<N ∧
   ((bT ops ((vs.take k).reverse++σ) o=some true∧LQ P w0 W HL ((vs.take k).reverse++σ) o v)∨(bT ops ((vs.take k).reverse++σ) o=some false∧v=undef))
 | [],σ,h=>⟨[],rfl,h,aE⟩
 | o::rest,σ,h=>by
  obtain⟨d,v,hd,hdN,hq,hr⟩:=h;obtain⟨vs,h1,h2,h3⟩:=fR.vals rest ((d,v)::σ) hr;refine⟨(d,v)::vs,by simp[h1],by simpa using h2,fun k o' hk=>?_⟩;cases k with
  | zero =>
   simp at hk;subst hk;exact⟨d,v,rfl,hd,hdN,by simpa using hq⟩
  | succ k =>
   obtain⟨d',v',e1,e2,e3,e4⟩:=h3 k o' (by simpa using hk);exact⟨d',v',by simpa using e1,e2,e3,by simpa using e4⟩
theorem aQ0{F:Fence}{n:Nat}{P:Program}{N:Nat}{w0:World}{W:Nat→Prop}{HL:List HE}{Q:Exit→Act→World→Prop}{ops:Array Oper}{mask:List Bool}{V:Nat→Option (Nat×Value)}{L:Nat→Option Value}[hF:aU F]
  (hback:∀i,oP ops i=true) (hplain:∀(i:Nat) (o:Oper),ops[i]? = some o→gK o=true)
  (hdst:∀(i j d:Nat),(bY mask i=true∨bY mask j=true)→i≠j→cW ops i=some d→cW ops j≠some d)
  (hlook:∀(i:Nat) (o:Oper) (j d:Nat),ops[i]? = some o→cW ops j=some d→d∈o.looksAt ops→(bY mask j=true→j<i∧cN ops i j=true)∧(bY mask i=true→bY mask j=true))
  (hV:∀(i:Nat) (o:Oper),bY mask i=true→ops[i]? = some o→∃d v,V i=some (d,v)∧o.dst=some d∧d<N ∧
   ∀a:Act,(∀t∈o.looksAt ops,∀u,L t=some u→a.tmps[t]? = some u)→(Region.wanted o (yielded ops a.tmps)=true∧∀w,St w0 W HL w→(execOp a.eval o).run P w=.ok (.value v) w)∨(Region.wanted o (yielded ops a.tmps)=false∧v=undef))
  (hVo:∀i d v,V i=some (d,v)→bY mask i=true∧cW ops i=some d) :
  ∀(fuel:Nat) (listed:Array Bool) (a b:Act) (w:World) (rest:List Nat) (m:Nat),qH listed ops.size≤fuel→listed.size=ops.size→(∀j,j<ops.size→listed[j]? = some true∨listed[j]? = some false) →
   (∀j∈rest,j<ops.size∧bY mask j=false∧listed[j]? = some false)→(∀j,j<ops.size→bY mask j=false→listed[j]? = some false→j∈rest)→rest.Nodup→rest.length≤m→((∀j,j<ops.size→bY mask j=true→listed[j]? = some true)∨St w0 W HL w) →
   yU N ops mask V L listed a b→cC F n P w0 W HL ops mask Q m rest b w→wpAnyIn F n P .any ops Q fuel listed a w:=by
 have hready:∀(listed:Array Bool) (i j:Nat),i∈Region.ready .any ops listed→cN ops i j=true→(listed[j]? = some true∨listed[j]? = some false)→listed[j]? = some true:=by
  intro listed i j hi he hl;obtain⟨-,o,hio,hie⟩:=mem_ready.1 hi;unfold cN at he;rw[hio]at he;simp only[Array.any_eq_true']at he;obtain⟨e,hemem,hee⟩:=he;simp only[Bool.and_eq_true,beq_iff_eq]at hee;have:=hie e hemem hee.1;rw[hee.2]at this;rcases hl with e1|e1
  ·exact e1
  ·rw[pQ e1]at this;cases this
 intro fuel
 induction fuel with
 | zero =>
  intro listed a b w rest m hu hsz hl hr1 hr2 hnd hmm hst hsim hwp;have hall:=aHp hl oo;have hrest:rest=[]:=by
   cases rest with
   | nil=>rfl
   | cons x r=>have:=hr1 x (List.mem_cons_self ..);rw[hall x this.1]at this;cases this.2.2
  subst hrest;have hab:a=b:=by
   have h1:a.tmps=b.tmps:=Array.ext_getElem? fun t=>hsim.ag t fun j d _ hd hf=>by
    have hjs:j<ops.size:=by
     unfold cW at hd;cases ho:ops[j]? with
     | none=>simp[ho]at hd
     | some o=>exact(Array.getElem?_eq_some_iff.1 ho).1
    rw[hall j hjs]at hf;cases hf
   cases a;cases b;simp at h1;have:=hsim.df;simp at this;simp[h1,this]
  subst hab;have hrd:Region.ready .any ops listed=[]:=by apply List.eq_nil_iff_forall_not_mem.2;intro j hj;obtain⟨hj1,o,ho,-⟩:=mem_ready.1 hj;have hjs:j<ops.size:=(Array.getElem?_eq_some_iff.1 ho).1;rw[pQ (hall j hjs)]at hj1;cases hj1
  exact⟨hrd,aHx hwp⟩
 | succ fuel ih =>
  intro listed a b w rest m hu hsz hl hr1 hr2 hnd hmm hst hsim hwp;refine⟨fun hrd=>?_,fun i hi=>?_⟩
  ·have hall:∀j,j<ops.size→listed[j]? = some true:=by
    intro j hj;rcases hl j hj with e|e
    ·exact e
    ·exfalso;obtain⟨x,hx1,hx2,hx3⟩:=aCg (p:=fun j=>listed[j]? = some false) ops.size ⟨j,hj,e⟩;have:=aDf (ops:=ops) (listed:=listed) hx1 (hback x) hx2 (fun y hy=>(hl y oo).resolve_right (hx3 y hy));rw[hrd]at this;cases this
   have hrest:rest=[]:=by
    cases rest with
    | nil=>rfl
    | cons x r=>have:=hr1 x (List.mem_cons_self ..);rw[hall x this.1]at this;cases this.2.2
   subst hrest;have hab:a=b:=by
    have h1:a.tmps=b.tmps:=Array.ext_getElem? fun t=>hsim.ag t fun j d _ hd hf=>by
     have hjs:j<ops.size:=by
      unfold cW at hd;cases ho:ops[j]? with
      | none=>simp[ho]at hd
      | some o=>exact(Array.getElem?_eq_some_iff.1 ho).1
     rw[hall j hjs]at hf;cases hf
    cases a;cases b;simp at h1;have:=hsim.df;simp at this;simp[h1,this]
   subst hab;exact aHx hwp
  ·obtain⟨hiu,o,hio,-⟩:=mem_ready.1 hi;have his:i<ops.size:=(Array.getElem?_eq_some_iff.1 hio).1;have hifalse:listed[i]? = some false:=by
    rcases hl i his with e|e
    ·rw[pQ e]at hiu;cases hiu
    ·exact e
   have hus:=aHo his hifalse;have hl':∀j,j<ops.size→(listed.setIfInBounds i true)[j]? = some true∨(listed.setIfInBounds i true)[j]? = some false:=by
    intro j hj;rw[Array.getElem?_setIfInBounds];split
    ·rw[if_pos oo];exact .inl rfl
    ·exact hl j hj
   have hset:∀j,(listed.setIfInBounds i true)[j]? = some false→j≠i∧listed[j]? = some false:=by
    intro j hj;rw[Array.getElem?_setIfInBounds]at hj;by_cases e:i=j
    ·rw[if_pos e,if_pos oo]at hj;cases hj
    ·rw[if_neg e]at hj;exact⟨fun e'=>e e'.symm,hj⟩
   have hset2:∀j,j≠i→listed[j]? = some false→(listed.setIfInBounds i true)[j]? = some false:=by intro j hj h;rw[Array.getElem?_setIfInBounds,if_neg (fun e=>hj e.symm)];exact h
   have hset3:∀j:Nat,listed[j]? = some true→(listed.setIfInBounds i true)[j]? = some true:=by
    intro j h;rw[Array.getElem?_setIfInBounds];split
    ·rw[if_pos oo]
    ·exact h
   have hagree:∀t∈o.looksAt ops,a.tmps[t]? = b.tmps[t]?:=by
    intro t ht;refine hsim.ag t fun j d hmj hdj hfj e=>?_;subst e;have hjs:j<ops.size:=by
     unfold cW at hdj;cases ho:ops[j]? with
     | none=>simp[ho]at hdj
     | some o=>exact(Array.getElem?_eq_some_iff.1 ho).1
    have:=hready listed i j hi ((hlook i o j d hio hdj ht).1 hmj).2 (hl j hjs);rw[hfj]at this;cases this
   refine wpOpIn_step hio fun K' hK'=>?_;have hnd':∀c,o.op≠.defer c:=by intro c e;have:=hplain i o hio;unfold gK at this;rw[e]at this;cases this
   by_cases hmi:bY mask i=true
   ·obtain⟨d,v,hVi,hd,hdN,hex⟩:=hV i o hmi hio;have hst1:St w0 W HL w:=hst.resolve_left fun h=>by rw[h i his hmi]at hifalse;cases hifalse
    have hdi:cW ops i=some d:=by simp[cW,hio,hd]
    have hsim':yU N ops mask V L (listed.setIfInBounds i true) (a.put (some d) v) b:=by
     refine⟨by simp[Act.put,hsim.sa],hsim.sb,by simp[Act.put,hsim.df],fun t ht=>?_,hsim.bv,hsim.ob⟩;simp only[Act.put,Array.getElem?_setIfInBounds];by_cases e:d=t
     ·subst e;rw[if_pos rfl,if_pos (by rw[hsim.sa];exact hdN),hsim.bv i d v hVi]
     ·rw[if_neg e];refine hsim.ag t fun j d' hmj hdj hfj=>?_;by_cases hji:j=i
      ·subst hji;rw[hdi]at hdj;injection hdj with hdj;subst hdj;exact e
      ·exact ht j d' hmj hdj (hset2 j hji hfj)
    have hnext:K' (a.put (some d) v) w:=hK' _ _ (ih _ _ b w rest m oo (by simpa using hsz) hl' (fun j hj=>by obtain⟨q1,q2,q3⟩:=hr1 j hj;exact⟨q1,q2,hset2 j (fun e=>by subst e;rw[hmi]at q2;cases q2) q3⟩) (fun j hj hm hf=>hr2 j hj hm (hset j hf).2) hnd hmm (.inr hst1) hsim' hwp);rcases hex a (fun t ht u hu=>by rw[hagree t ht];exact hsim.ob t u hu fun k hk hdk=>by have:=(hlook i o k t hio hdk ht).2 hmi;rw[hk]at this;cases this) with⟨hw1,hrun⟩ | ⟨hw1,hv⟩
    ·rw[if_pos hw1];refine⟨fun f _=>hF.out.fn f,?_⟩;rw[Oper.semAt_plain F _ _ hnd',hrun w hst1,Oper.uponIn_value,hd];exact hnext
    ·rw[hw1];simp only[Bool.false_eq_true,if_false];refine⟨fun f _=>hF.out.fn f,?_⟩;rw[hd,← hv];exact hnext
   ·have hmi':bY mask i=false:=by simpa using hmi
    have hir:i∈rest:=hr2 i his hmi' hifalse;cases m with
    | zero=>exact absurd (List.length_pos_of_mem hir) oo
    | succ m =>
     have hwp:=hwp.2 i hir (fun j hj=>by
      cases he:cN ops i j with
      | false=>rfl
      | true =>
       have hj1:=hr1 j hj;have:=hready listed i j hi he (hl j hj1.1);rw[hj1.2.2]at this;cases this)
     have hopsAt:cQ ops [i]=[o]:=by simp[cQ,hio]
     rw[hopsAt]at hwp;have hwt:Region.wanted o (yielded ops a.tmps)=Region.wanted o (yielded ops b.tmps):=by
      unfold Region.wanted;cases hg:o.guard with
      | none=>rfl
      | some g =>
       obtain⟨j,c⟩:=g;simp only[yielded];cases hj:(ops[j]?).bind (·.dst) with
       | none=>rfl
       | some t =>
        have:t∈o.looksAt ops:=by unfold Oper.looksAt;rw[hg];exact List.mem_append_right _ (by simp[hj])
        simp only[Option.bind_some,hagree t this]
     have hev:execOp a.eval o=execOp b.eval o:=by
      refine execOp_congr o (fun cs c e=>?_) fun x hx=>yZ fun t e=>?_
      ·have:=hplain i o hio;unfold gK at this;rw[e]at this;cases this
      ·subst e;exact hagree t (List.mem_append_left _ (List.mem_filterMap.2 ⟨.tmp t,by simpa using hx,rfl⟩))
     have hsimH:∀(a' b':Act),a'.tmps=a.tmps→b'.tmps=b.tmps→a'.defers=b'.defers→∀v,yU N ops mask V L (listed.setIfInBounds i true) (a'.put o.dst v) (b'.put o.dst v):=by
      intro a' b' ea eb ed v;cases hd:o.dst with
      | none =>
       refine⟨by simp[Act.put,ea,hsim.sa],by simp[Act.put,eb,hsim.sb],by simp[Act.put,ed],fun t ht=>?_,fun j d v hj=>by simpa [Act.put,eb] using hsim.bv j d v hj,fun t u hu hk=>by simpa [Act.put,eb] using hsim.ob t u hu hk⟩;simp only[Act.put,ea,eb];exact hsim.ag t fun j d hmj hdj hfj=>ht j d hmj hdj (hset2 j (fun e=>by subst e;rw[hmi']at hmj;cases hmj) hfj)
      | some d =>
       have hdi:cW ops i=some d:=by simp[cW,hio,hd]
       refine⟨by simp[Act.put,ea,hsim.sa],by simp[Act.put,eb,hsim.sb],by simp[Act.put,ed],fun t ht=>?_,fun j d' v' hj=>?_,fun t u hu hk=>?_⟩
       ·simp only[Act.put,ea,eb,Array.getElem?_setIfInBounds,hsim.sa,hsim.sb];by_cases e:d=t
        ·rw[if_pos e,if_pos e]
        ·rw[if_neg e,if_neg e];exact hsim.ag t fun j d hmj hdj hfj=>ht j d hmj hdj (hset2 j (fun e=>by subst e;rw[hmi']at hmj;cases hmj) hfj)
       ·simp only[Act.put,eb,Array.getElem?_setIfInBounds];have hne:d≠d':=by obtain⟨q1,q2⟩:=hVo j d' v' hj;intro e;subst e;exact hdst i j d (.inr q1) (fun e=>by subst e;rw[hmi']at q1;cases q1) hdi q2
        rw[if_neg hne];exact hsim.bv j d' v' hj
       ·simp only[Act.put,eb,Array.getElem?_setIfInBounds];have hne:d≠t:=fun e=>hk i hmi' (by rw[← e];exact hdi);rw[if_neg hne];exact hsim.ob t u hu hk
     have hnext:∀(a' b':Act),a'.tmps=a.tmps→b'.tmps=b.tmps→a'.defers=b'.defers→∀v w',wpListIn F n P ops (nq fun _ b'' w''=>(eN ops mask i=true∨St w0 W HL w'')∧cC F n P w0 W HL ops mask Q m (rest.erase i) b'' w'') [] (b'.put o.dst v) w'→K' (a'.put o.dst v) w':=by
      intro a' b' ea eb ed v w' hh;obtain⟨hst',hh⟩:=hh
      exact hK' _ _ (ih _ _ _ w' (rest.erase i) m oo (by simpa using hsz) hl' (fun j hj=>by
       have hj2:=(List.Nodup.mem_erase_iff hnd).1 hj;obtain⟨q1,q2,q3⟩:=hr1 j hj2.2;exact⟨q1,q2,hset2 j hj2.1 q3⟩) (fun j hj hm hf=>by
       obtain⟨q1,q2⟩:=hset j hf;exact(List.Nodup.mem_erase_iff hnd).2 ⟨q1,hr2 j hj hm q2⟩) (hnd.erase i) (by have:=List.length_erase_of_mem hir;have:=List.length_pos_of_mem hir;omega) (hst'.imp (fun hlb j hj hm=>by
       have he:cN ops i j=true:=by have:=List.all_eq_true.1 hlb j (List.mem_range.2 hj);rw[hm]at this;simpa using this
       have h1:=hready listed i j hi he (hl j hj);exact(hset3 j h1)) id) (hsimH a' b' ea eb ed v) hh)
     simp only[wpListIn]at hwp;rw[hwt];by_cases hw:Region.wanted o (yielded ops b.tmps)=true
     ·rw[if_pos hw]at hwp ⊢;refine⟨fun f _=>hF.out.fn f,?_⟩;have h2:=hwp.2;rw[Oper.semAt_plain F _ _ hnd',← hev]at h2;rw[Oper.semAt_plain F _ _ hnd'];exact wX h2 (fun v w' hh=>hnext a b rfl rfl hsim.df v w' hh) (fun x w' hh=>hnext { a with defers:=x::a.defers } { b with defers:=x::b.defers } rfl rfl (by simp[hsim.df]) undef w' hh)
     ·rw[if_neg hw]at hwp ⊢;exact⟨fun f _=>hF.out.fn f,hnext a b rfl rfl hsim.df undef w hwp.2⟩
theorem dM{F:Fence}{n:Nat}{P:Program}{N:Nat}{ds:List Deferred}{w0:World}{W:Nat→Prop}{σ:List (Nat×Value)}{H:List HE}{Q:Exit→Act→World→Prop}{id:Nat}{l:List Oper}(HL:List HE)(mask:List Bool)(rest:List Nat)[hF:aU F]
  (hs:aA HL H) (hrest:oF l.toArray mask=rest) (hmx:P.follows .mixedOrders=true) (hok:sL l.toArray mask=true)
  (h:fR P N w0 W HL l.toArray (cQ l.toArray (fH l.toArray mask)) σ (fun τ=>J N ds w0 W τ H (cC F n P w0 W HL l.toArray mask Q rest.length rest))):J N ds w0 W σ H ((Code.region id l.toArray true).wpIn F n P Q):=by
 subst hrest;intro a w ha hst;refine wpIn_region_any hmx ?_;generalize l.toArray=ops at h hok;unfold sL at hok;simp only[Bool.and_eq_true,beq_iff_eq]at hok;obtain⟨⟨hlen,hback0⟩,hall⟩:=hok;have hback:∀i,oP ops i=true:=by
  intro i;rcases Nat.lt_or_ge i ops.size with hi|hi
  ·exact List.all_eq_true.1 hback0 i (List.mem_range.2 hi)
  ·unfold oP;rw[Array.getElem?_eq_none hi]
 have hmlt:∀i,bY mask i=true→i<ops.size:=by
  intro i hi;rw[← hlen];unfold bY at hi;rcases Nat.lt_or_ge i mask.length with h1|h1
  ·exact h1
  ·rw[List.getD_eq_getElem?_getD,List.getElem?_eq_none h1]at hi;cases hi
 have hdlt:∀j d,cW ops j=some d→j<ops.size:=by
  intro j d hd;unfold cW at hd;cases ho:ops[j]? with
  | none=>simp[ho]at hd
  | some o=>exact(Array.getElem?_eq_some_iff.1 ho).1
 have hper:∀(i:Nat) (o:Oper),ops[i]? = some o→gK o=true∧(bY mask i=true→o.dst.isSome=true)∧∀(j d:Nat),cW ops j=some d →
   ((bY mask i=true∨bY mask j=true)→i≠j→o.dst≠some d)∧(d∈o.looksAt ops→(bY mask j=true→j<i∧cN ops i j=true)∧(bY mask i=true→bY mask j=true)):=by
  intro i o ho;have his:i<ops.size:=(Array.getElem?_eq_some_iff.1 ho).1;have h1:=List.all_eq_true.1 hall i (List.mem_range.2 his);rw[ho]at h1;simp only[Bool.and_eq_true]at h1;obtain⟨⟨h2,h3⟩,h4⟩:=h1;refine⟨h2,fun hm=>by rw[hm]at h4;simpa using h4,fun j d hd=>?_⟩;have h5:=List.all_eq_true.1 h3 j (List.mem_range.2 (hdlt j d hd));rw[hd]at h5;simp only[Bool.and_eq_true]at h5;obtain⟨h6,h7⟩:=h5;refine⟨fun hm hne=>?_,fun hlk=>?_⟩
  ·have e1:(bY mask i||bY mask j)=true:=by rcases hm with e|e<;>simp[e]
   have e2:Nat.beq i j=false:=by
    cases hb:Nat.beq i j with
    | false=>rfl
    | true=>exact absurd (Nat.eq_of_beq_eq_true hb) hne
   rw[e1,e2]at h6;simpa using h6
  ·have e3:(o.looksAt ops).contains d=true:=by simpa using hlk
   rw[e3]at h7;simp only[Bool.not_true,Bool.false_or]at h7;refine⟨fun hm=>?_,fun hm=>?_⟩
   ·rw[hm]at h7;simpa using h7
   ·rw[hm]at h7;cases hj:bY mask j with
    | true=>rfl
    | false=>rw[hj]at h7;cases h7
 obtain⟨vs,hvl,hT,hvs⟩:=fR.vals _ _ h;have hps:∀i∈fH ops mask,i<ops.size:=fun i hi=>List.mem_range.1 (List.mem_filter.1 hi).1;rw[aGe _ hps]at hvl;have hinc:(fH ops mask).Pairwise (· < ·):=List.Pairwise.filter _ (List.pairwise_lt_range);have hget:∀k i:Nat,(fH ops mask)[k]? = some i→∃o d v,ops[i]? = some o∧bY mask i=true∧vs[k]? = some (d,v)∧o.dst=some d∧d<N ∧
   ((bT ops ((vs.take k).reverse++σ) o=some true∧LQ P w0 W HL ((vs.take k).reverse++σ) o v)∨(bT ops ((vs.take k).reverse++σ) o=some false∧v=undef)):=by
  intro k i hk;have him:i∈fH ops mask:=List.mem_of_getElem? hk;have his:=hps i him;have hoi:ops[i]? = some ops[i]:=Array.getElem?_eq_getElem his;obtain⟨d,v,e1,e2,e3,e4⟩:=hvs k ops[i] (by rw[aGd _ hps k i hk,hoi]);exact⟨ops[i],d,v,hoi,(List.mem_filter.1 him).2,e1,e2,e3,e4⟩
 have hkey:∀k:Nat,k<vs.length→∃i:Nat,(fH ops mask)[k]? = some i:=fun k hk=>⟨_,List.getElem?_eq_getElem oo⟩;have hdis:∀(k k' d:Nat) (v v':Value),vs[k]? = some (d,v)→vs[k']? = some (d,v')→k=k':=by
  intro k k' d v v' h1 h2;obtain⟨i,hi⟩:=hkey k (List.getElem?_eq_some_iff.1 h1).1;obtain⟨i',hi'⟩:=hkey k' (List.getElem?_eq_some_iff.1 h2).1;obtain⟨o,d1,v1,q1,q2,q3,q4,-⟩:=hget k i hi;obtain⟨o',d2,v2,r1,r2,r3,r4,-⟩:=hget k' i' hi';rw[h1]at q3;injection q3 with q3;injection q3 with q3 _;subst q3;rw[h2]at r3;injection r3 with r3;injection r3 with r3 _;subst r3;apply Classical.byContradiction;intro hne;have hii:i≠i':=by intro e;subst e;have hnd:(fH ops mask).Nodup:=aDb ops mask;exact hne ((List.getElem?_inj (List.getElem?_eq_some_iff.1 hi).1 hnd).1 (by rw[hi,hi']))
  exact((hper i o q1).2.2 i' d (by simp[cW,r1,r4])).1 (.inl q2) hii q4
 have hN:∀p∈vs.reverse,p.1<N:=by intro p hp;obtain⟨k,hk,hke⟩:=List.getElem_of_mem (List.mem_reverse.1 hp);obtain⟨i,hi⟩:=hkey k hk;obtain⟨o,d,v,-,-,q3,-,q5,-⟩:=hget k i hi;rw[List.getElem?_eq_getElem hk,hke]at q3;injection q3 with q3;subst q3;exact q5
 have hpos:∀i:Nat,bY mask i=true→∃k:Nat,(fH ops mask)[k]? = some i:=by intro i hi;have:i∈fH ops mask:=List.mem_filter.2 ⟨List.mem_range.2 (hmlt i hi),hi⟩;obtain⟨k,hk,hke⟩:=List.getElem_of_mem this;exact⟨k,by rw[List.getElem?_eq_getElem hk,hke]⟩
 have hlookv:∀(k d:Nat) (v:Value),vs[k]? = some (d,v)→aI vs.reverse d=some v:=by
  intro k d v hk;cases hl:aI vs.reverse d with
  | none=>exact absurd (List.mem_reverse.2 (List.mem_of_getElem? hk)) (aAr hl v)
  | some u =>
   obtain⟨k',hk',hke⟩:=List.getElem_of_mem (List.mem_reverse.1 (zF hl));have h2:vs[k']? = some (d,u):=by rw[List.getElem?_eq_getElem hk',hke]
   have:=hdis k k' d v u hk h2;subst this;rw[hk]at h2;injection h2 with h2;injection h2 with _ h2;rw[h2]
 let V:Nat→Option (Nat×Value):=fun i=>if bY mask i=true then (vs[(fH ops mask).idxOf i]?)else none;have hVk:∀(k i:Nat),(fH ops mask)[k]? = some i→bY mask i=true→V i=vs[k]?:=by
  intro k i hk hm;have hnd:(fH ops mask).Nodup:=aDb ops mask;have:(fH ops mask).idxOf i=k:=by have hkl:=(List.getElem?_eq_some_iff.1 hk).1;have hmem:=List.mem_of_getElem? hk;exact(List.getElem?_inj (List.idxOf_lt_length_of_mem hmem) hnd).1 (by rw[List.getElem?_eq_getElem (List.idxOf_lt_length_of_mem hmem),List.getElem_idxOf,hk])
  simp only[V,if_pos hm,this]
 have hpa:=fun t=>aD9 (N:=N) vs.reverse (a:=a) (t:=t) hN ha.size;refine aQ0 (N:=N) (w0:=w0) (W:=W) (HL:=HL) (mask:=mask) (V:=V) (L:=aI (vs.reverse++σ)) hback (fun i o ho=>(hper i o ho).1) (fun i j d hm hne hi hj=>?_) (fun i o j d ho hd hl=>((hper i o ho).2.2 j d hd).2 hl) ?_ ?_ ops.size (Array.replicate ops.size false) a (rE vs.reverse a) _ (oF ops mask) (oF ops mask).length ?_ aE (fun j hj=>.inr (by simp[hj])) ?_ ?_ (aKm ops mask) (Nat.le_refl _) (.inr (hst.sub hs).drew) ?_ (hT _ _ (aGn vs.reverse hN ha) hst.drew)
 ·have his:=hdlt i d hi;have hoi:ops[i]? = some ops[i]:=Array.getElem?_eq_getElem his;have:=((hper i ops[i] hoi).2.2 j d hj).1 hm hne;simp only[cW,hoi,Option.bind_some]at hi;exact absurd hi this
 ·intro i o hm ho;obtain⟨k,hk⟩:=hpos i hm;obtain⟨o',d,v,q1,-,q3,q4,q5,q6⟩:=hget k i hk;rw[ho]at q1;injection q1 with q1;subst q1;refine⟨d,v,by rw[hVk k i hk hm,q3],q4,q5,fun a' ha'=>?_⟩;have hsub:∀t∈o.looksAt ops,∀u,aI ((vs.take k).reverse++σ) t=some u→a'.tmps[t]? = some u:=by
   intro t ht u hu;refine ha' t ht u ?_;have e:vs.reverse=(vs.drop k).reverse++(vs.take k).reverse:=by rw[← List.reverse_append,List.take_append_drop]
   rw[e,List.append_assoc,zE,aCu,Option.none_or]
   ·exact hu
   ·intro p hp e';obtain⟨j,hj,hje⟩:=List.getElem_of_mem (List.mem_reverse.1 hp);have hvj:vs[k+j]? = some (t,p.2):=by rw[← List.getElem?_drop,List.getElem?_eq_getElem hj,hje,← e']
    obtain⟨i',hi'⟩:=hkey (k+j) (List.getElem?_eq_some_iff.1 hvj).1;obtain⟨o2,d2,v2,r1,r2,r3,r4,-⟩:=hget (k+j) i' hi';rw[hvj]at r3;injection r3 with r3;injection r3 with r3 _;subst r3;have hlt:=(((hper i o ho).2.2 i' t (by simp[cW,r1,r4])).2 ht).1 r2;rcases Nat.eq_zero_or_pos j with h0|h0
    ·subst h0;rw[Nat.add_zero,hk]at hi';injection hi' with hi';omega
    ·have:=List.pairwise_iff_getElem.1 hinc k (k+j) (List.getElem?_eq_some_iff.1 hk).1 (List.getElem?_eq_some_iff.1 hi').1 oo;rw[(List.getElem?_eq_some_iff.1 hk).2,(List.getElem?_eq_some_iff.1 hi').2]at this;omega
  rcases q6 with⟨q6,q7⟩ | ⟨q6,q7⟩
  ·refine .inl ⟨vL hsub q6,fun w' hw'=>q7 _ (fun x hx u hu=>?_) w' hw'⟩;cases x with
   | tmp t =>
    have:=hsub t (List.mem_append_left _ (List.mem_filterMap.2 ⟨.tmp t,hx,rfl⟩)) u hu;simp[Act.eval,this]
   | const u=>simpa [ev,Act.eval] using hu
   | global g=>simpa [ev,Act.eval] using hu
   | func f=>simpa [ev,Act.eval] using hu
  ·exact .inr ⟨vL hsub q6,q7⟩
 ·intro i d v hV;simp only[V]at hV;split at hV
  ·rename_i hm;obtain⟨k,hk⟩:=hpos i hm;have:=hVk k i hk hm;simp only[V,if_pos hm]at this;rw[this]at hV;obtain⟨o',d',v',q1,-,q3,q4,-,-⟩:=hget k i hk;rw[hV]at q3;injection q3 with q3;injection q3 with q3 _;subst q3;exact⟨hm,by simp[cW,q1,q4]⟩
  ·cases hV
 ·unfold qH;exact Nat.le_trans (List.length_filter_le _ _) aE
 ·intro j hj;obtain⟨q1,q2⟩:=List.mem_filter.1 hj;have:=List.mem_range.1 q1;exact⟨this,by simpa using q2,by simp[this]⟩
 ·intro j hj hm _;exact List.mem_filter.2 ⟨List.mem_range.2 hj,by simp[hm]⟩
 ·refine⟨ha.size,(hpa 0).2.1,(hpa 0).2.2.symm,fun t ht=>?_,fun j d v hV=>?_,fun t u hu _=>?_⟩
  ·rw[(hpa t).1,aCu,Option.none_or];intro p hp e;obtain⟨k,hk,hke⟩:=List.getElem_of_mem (List.mem_reverse.1 hp);obtain⟨i,hi⟩:=hkey k hk;obtain⟨o,d,v,q1,q2,q3,q4,q5,-⟩:=hget k i hi;rw[List.getElem?_eq_getElem hk,hke]at q3;injection q3 with q3;subst q3;exact ht i d q2 (by simp[cW,q1,q4]) (by simp[hmlt i q2]) e
  ·simp only[V]at hV;split at hV
   ·rename_i hm;rw[(hpa d).1,hlookv _ d v hV];rfl
   ·cases hV
  ·rw[(hpa t).1];rw[zE]at hu;cases hl:aI vs.reverse t with
   | some u'=>rw[hl]at hu;simpa using hu
   | none=>rw[hl]at hu;exact ha.at_ t u (by simpa using hu)
def aCc(ops:Array Oper)(j i:Nat):Bool :=
 match ops.toList[j]? with
 | some o=>o.after.toList.any fun e=>Region.binds .any e&&e.on==i
 | none=>false
theorem aSy(ops:Array Oper)(j i:Nat):aCc ops j i=cN ops j i:=by
 unfold aCc cN;rw[Array.getElem?_toList];cases ops[j]? with
 | none=>rfl
 | some o=>simp only[Array.any_toList]
section
variable {F:Fence} {n:Nat} {P:Program} {N:Nat} {ds:List Deferred} {w0:World} {W:Nat→Prop} {σ:List (Nat×Value)} {H HL:List HE} {Q:Exit→Act→World→Prop} {ops:Array Oper} {mask:List Bool} {m:Nat} {rest:List Nat}
def vN(p:Nat→Prop):List Nat→Prop
 | []=>True
 | i::r=>p i∧vN p r
theorem vN.at_{p:Nat→Prop}: ∀{l:List Nat},vN p l→∀i∈l,p i
 | i::_,h,j,hj=>by
  rcases List.mem_cons.1 hj with rfl|hj
  ·exact h.1
  ·exact vN.at_ h.2 j hj
theorem wU(l:List Nat)(hne:rest.isEmpty=false)(hl:(rest.filter fun i=>rest.all fun j=>!aCc ops i j)=l)
  (h:vN (fun i=>J N ds w0 W σ H (wpListIn F n P ops (nq fun _ b' w'=>(eN ops mask i=true∨St w0 W HL w')∧cC F n P w0 W HL ops mask Q m (rest.erase i) b' w') (cQ ops [i]))) l):J N ds w0 W σ H (cC F n P w0 W HL ops mask Q (m+1) rest):=by
 intro a w ha hw;refine⟨fun e=>by rw[e]at hne;simp at hne,fun i hi hj=>?_⟩;refine h.at_ i ?_ a w ha hw;rw[← hl];exact List.mem_filter.2 ⟨hi,List.all_eq_true.2 fun j hj2=>by simp[aSy,hj j hj2]⟩
theorem vS{p:Nat→Prop}{i:Nat}{r:List Nat}(h:p i)(g:vN p r):vN p (i::r):=⟨h,g⟩
theorem vT{p:Nat→Prop}:vN p []:=trivial
theorem wW{b:Bool}(hs:aA HL H){k:Act→World→Prop}(h:J N ds w0 W σ H k):J N ds w0 W σ H (fun b' w'=>(b=true∨St w0 W HL w')∧k b' w') :=
 fun a w ha hw=>⟨.inr (hw.sub hs),h a w ha hw⟩
theorem aHk{i:Nat}(hb:eN ops mask i=true){k:Act→World→Prop}(h:J N ds w0 W σ H k):J N ds w0 W σ H (fun b' w'=>(eN ops mask i=true∨St w0 W HL w')∧k b' w') :=
 fun a w ha hw=>⟨.inl hb,h a w ha hw⟩
theorem wV(h:J N ds w0 W σ H (Q .normal)):J N ds w0 W σ H (cC F n P w0 W HL ops mask Q 0 rest):=h
def aVn:Op→Bool
 | .move _ | .assign _ | .convert .. | .extract .. | .load .. | .fieldAddr .. | .indexAddr .. | .nilCheck _ | .index .. | .field ..=>true
 | .binOp op ..=>match op with | .add | .sub | .mul | .eql | .neq | .lss | .leq | .gtr | .geq | .shl | .shr | .quo | .rem | .and | .or | .xor=>true|_=>false
 | .unOp op ..=>match op with | .not | .neg=>true|_=>false
 | .pick ..=>true
 | .call ⟨.builtin .len,_,_⟩=>true
 | .call ⟨.builtin .min,_,_⟩=>true
 | .call ⟨.builtin .max,_,_⟩=>true
 | _=>false
def aAq(ops:Array Oper):List Oper→Nat→List Nat→List Nat→List Bool
 | [],_,_,_=>[]
 | o::r,i,hv,hi=>match aVn o.op&&!((o.looksAt ops).any fun t=>hv.contains t)&&!(hi.any fun j=>aCc ops i j),o.dst with
  | true,some _=>true::aAq ops r (i+1) hv hi
  | _,some d=>false::aAq ops r (i+1) (d::hv) (i::hi)
  | _,none=>false::aAq ops r (i+1) hv (i::hi)
end
end Go.Proofs.YtbhchphfmhmabaaGreat
namespace Go.Proofs.YtbhchphfmhmabaaGreat
theorem gY{a b:Int}(A B:Nat)(ha : -(A:Int)≤a∧a≤A)(hb : -(B:Int)≤b∧b≤B): -((A*B:Nat):Int)≤a*b∧a*b≤((A*B:Nat):Int):=by have h1:a.natAbs≤A:=oo;have h2:b.natAbs≤B:=oo;have h3:=Nat.mul_le_mul h1 h2;rw[← Int.natAbs_mul]at h3;omega
def eG(d:List Int):Nat→Int
 | 0=>0
 | i+1=>eG d i+d.getD i 0
def uQ(n s m x:Int):Int:=if 2≤m then n*x-s else x
def oK(m x:Int):Int:=if m=0∨m=2 then (if x<0 then -x else x)else x*x
def kH(n s m:Int)(d:List Int):Nat→Int
 | 0=>0
 | i+1=>kH n s m d i+oK m (uQ n s m (d.getD i 0))
theorem bBt(m x:Int):0≤oK m x:=by
 unfold oK;split
 ·split<;>omega
 ·rcases Int.lt_or_le x 0 with h|h
  ·exact Int.le_of_lt (Int.mul_pos_of_neg_of_neg h h)
  ·exact Int.mul_nonneg h h
theorem aJf(n s m:Int)(d:List Int)(i:Nat):∀k,kH n s m d i≤kH n s m d (i+k)
 | 0=>Int.le_refl _
 | k+1=>by have h1:=aJf n s m d i k;have h2:=bBt m (uQ n s m (d.getD (i+k) 0));show _≤kH n s m d (i+k)+oK m (uQ n s m (d.getD (i+k) 0));omega
theorem aJe{n s m:Int}{d:List Int}{i k:Nat}(h:i≤k):kH n s m d i≤kH n s m d k:=by have:=aJf n s m d i (k-i);rw[show i+(k-i)=k by omega]at this;exact this
theorem aJg(n s m:Int)(d:List Int)(i:Nat):0≤kH n s m d i:=by have:=aJe (n:=n) (s:=s) (m:=m) (d:=d) (Nat.zero_le i);exact this
def sY(d:List Int)(i:Nat):Prop:=∀j,j<i→-8388608≤d.getD j 0∧d.getD j 0≤8388608
theorem aHf{d:List Int}: ∀{i:Nat},sY d i→-(8388608*(i:Int))≤eG d i∧eG d i≤8388608*(i:Int)
 | 0,_=>by simp[eG]
 | i+1,h=>by have h1:=aHf (i:=i) (fun j hj=>h j oo);have h2:=h i oo;rw[eG];omega
def vU(d:List Int):Nat→Bool
 | 0=>false
 | i+1=>vU d i||decide (d.getD i 0 < -8388608∨8388608<d.getD i 0)
theorem aA7{d:List Int}: ∀{i:Nat},vU d i=false↔sY d i
 | 0=>⟨fun _ j hj=>by omega,fun _=>rfl⟩
 | i+1=>by
  have ih:=aA7 (d:=d) (i:=i);rw[vU,Bool.or_eq_false_iff,ih,decide_eq_false_iff_not];constructor
  ·rintro⟨h1,h2⟩ j hj;rcases Nat.lt_or_ge j i with h|h
   ·exact h1 j h
   ·obtain rfl:j=i:=oo;omega
  ·intro h;exact⟨fun j hj=>h j oo,by have:=h i oo;omega⟩
def oT(d:List Int)(m eA eR eS:Int):Int×Int :=
 if 64<d.length∨m<0∨3<m then (0,eA)else
 if vU d d.length=true then (0,eR)else
 if 4611686018427387904<kH d.length (eG d d.length) m d d.length then (0,eS)else (kH d.length (eG d d.length) m d d.length,0)
theorem aJr{d:List Int}{m:Int}{i:Nat}(hl:d.length≤64)(h:sY d d.length)(hi:i<d.length):
  -1073741824≤uQ d.length (eG d d.length) m (d.getD i 0)∧uQ d.length (eG d d.length) m (d.getD i 0)≤1073741824:=by
 have h1:=aHf h;have h2:=h i hi;have h3:=gY 64 8388608 (a:=(d.length:Int)) (b:=d.getD i 0) oo oo;unfold uQ;split<;>omega
def aAf(r:Nat):Nat:=(r/2) ^^^ (if r%2=1 then 3988292384 else 0)
def aAg:Nat→Nat→Nat
 | 0,r=>r
 | k+1,r=>aAf (aAg k r)
theorem aSk{r:Nat}(h:r<4294967296):aAf r<4294967296:=by unfold aAf;exact Nat.xor_lt_two_pow (n:=32) oo (by split<;>omega)
theorem aEu{r:Nat}(h:r<4294967296):∀k,aAg k r<4294967296
 | 0=>h
 | k+1=>aSk (aEu h k)
def nP:List Int→Nat
 | []=>0
 | y::r=>y.toNat+256*nP r
theorem aLz:∀a b:List Int,nP (a++b)=nP a+256^a.length*nP b
 | [],b=>by simp[nP]
 | y::r,b=>by rw[List.cons_append,nP,nP,aLz r b,List.length_cons,Nat.pow_succ,Nat.mul_add,Nat.mul_comm (256^r.length) 256,Nat.mul_assoc];omega
theorem aX0{ys:List Int}(h:∀y∈ys,0≤y∧y<256):nP ys<256^ys.length:=by
 induction ys with
 | nil=>simp[nP]
 | cons y r ih =>
  have h1:=h y (List.mem_cons_self ..);have h2:=ih (fun x hx=>h x (List.mem_cons_of_mem _ hx));rw[nP,List.length_cons,Nat.pow_succ];omega
def uO(ys:List Int)(r:Nat):Nat→Nat
 | 0=>r
 | i+1=>aAg 8 (uO ys r i ^^^ (ys.getD i 0).toNat)
theorem aEv{ys:List Int}(h:∀y∈ys,0≤y∧y<256){r:Nat}(hr:r<4294967296):∀i,i≤ys.length→uO ys r i<4294967296
 | 0,_=>hr
 | i+1,hi=>by
  refine aEu (Nat.xor_lt_two_pow (n:=32) (aEv h hr i oo) ?_) 8;have:ys.getD i 0∈ys:=by rw[List.getD_eq_getElem?_getD,List.getElem?_eq_getElem oo];exact List.getElem_mem ..
  have:=h _ this;omega
theorem aD7(n:Nat):256^n=2^(8*n):=by rw[Nat.pow_mul]
def qE(ys:List Int):Nat:=4294967295 ^^^ uO ys 4294967295 ys.length
theorem aO4{ys:List Int}(h:∀y∈ys,0≤y∧y<256):qE ys<4294967296:=Nat.xor_lt_two_pow (n:=32) oo (aEv h oo _ (Nat.le_refl _))
def cX(x:Nat)(size:Nat):List Int:=(List.range size).map fun i=>((x/256^i%256:Nat):Int)
theorem eL(x size:Nat):(cX x size).length=size:=by simp[cX]
theorem aQv(x size i:Nat)(h:i<size):(cX x size).take (i+1)=(cX x size).take i++[((x/256^i%256:Nat):Int)]:=by rw[List.take_succ_eq_append_getElem (by rw[eL];exact h)];simp[cX]
theorem aIr(x size i:Nat)(h:i<size):(cX x size).getD i 0=((x/256^i%256:Nat):Int):=by simp[cX,List.getD_eq_getElem?_getD,h]
theorem uL(x size:Nat):∀y∈cX x size,0≤y∧y<256:=by intro y hy;obtain⟨i,-,rfl⟩:=List.mem_map.1 hy;omega
theorem aQu(x size:Nat):cX x (size+1)=((x%256:Nat):Int)::cX (x/256) size:=by
 unfold cX;rw[List.range_succ_eq_map,List.map_cons,List.map_map];congr 1
 ·simp
 ·refine List.map_congr_left fun i _=>?_;simp only[Function.comp,Nat.pow_succ,Nat.div_div_eq_div_mul,Nat.succ_eq_add_one,Nat.mul_comm]
theorem aM0:∀(size x:Nat),nP (cX x size)=x%256^size
 | 0,x=>by simp[cX,nP,Nat.mod_one]
 | size+1,x=>by rw[aQu,nP,aM0 size (x/256),Int.toNat_natCast,Nat.pow_succ,Nat.mul_comm (256^size) 256,Nat.mod_mul]
