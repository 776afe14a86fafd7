import Derived.Carry
import Derived.Test.YthajpemlpmlefaaGreatP12
import Derived.Test.YthajpemlpmlefaaGreatP13
import Derived.Test.YthajpemlpmlefaaGreatP14
set_option maxHeartbeats 512000000
set_option maxRecDepth 4000
set_option linter.unusedVariables false
set_option linter.unusedSimpArgs false
namespace Go.Proofs.YthajpemlpmlefaaGreat
open Go.RowKit
theorem stepR_scope{P:Program}{b:Frame}{a:Act}{k:List Item}{cs:List Frame}{w:World}{c:Code}:
  step P (lone (b.atR a (.code (.scope c)::k)) cs w)=.next (lone (b.atR a (.code c::.inScope c::k)) cs w) :=
 step_lone_go (by simp[stepG,stepG.exec,Frame.atR])
theorem stepR_inScope{P:Program}{b:Frame}{a:Act}{k:List Item}{cs:List Frame}{w:World}{c:Code}:
  step P (lone (b.atR a (.inScope c::k)) cs w)=.next (lone (b.atR a k) cs w) :=
 step_lone_go (by simp[stepG,stepG.exec,Frame.atR])
def sq(Q:Exit→Act→World→Prop):Exit→Act→World→Prop
 | .goto _=>fun _ _=>False
 | e=>Q e
theorem wpIn_scope{F:Fence}{n:Nat}{P:Program}{Q:Exit→Act→World→Prop}{a:Act}{w:World}{c:Code}(h:c.wpIn F n P (sq Q) a w):(Code.scope c).wpIn F n P Q a w:=by
 intro b k cs hro hb hr
 have h0:(lone (b.atR a (.code (.scope c)::k)) cs w).fenced P F:=fenced_calm hb hr rfl
 obtain⟨e,a₁,w₁,hq,harr⟩:=h b (.inScope c::k) cs hro hb hr
 cases e with
 | normal=>exact⟨.normal,a₁,w₁,hq,.head h0 stepR_scope (StepsIn.trans harr (.one (fenced_calm hb hr rfl) stepR_inScope))⟩
 | exit id =>
  have hx:exitTo id (.inScope c::k)=exitTo id k:=by simp[exitTo]
  exact⟨_,a₁,w₁,hq,fun k' hk=>.head h0 stepR_scope (harr.1 k' (by rw[hx];exact hk)),
   fun hr' hk=>let ⟨k₁,h1,h2⟩:=harr.2 hr' (by rw[hx];exact hk);⟨k₁,h1,.head h0 stepR_scope h2⟩⟩
 | goto l=>exact hq.elim
 | ret=>exact⟨_,a₁,w₁,hq,.of_steps (.one h0 stepR_scope) harr⟩
 | panic ch=>exact⟨_,a₁,w₁,hq,.of_steps (.one h0 stepR_scope) harr⟩
 | outgrown=>exact⟨_,a₁,w₁,hq,.of_steps (.one h0 stepR_scope) harr⟩
section
variable {F:Fence} {n:Nat} {P:Program} {N:Nat} {ds:List Deferred} {w0:World} {W:Nat→Prop} {σ:List (Nat×Value)} {H:List HE} {Q:Exit→Act→World→Prop}
theorem c_scope{c:Code}(h:J N ds w0 W σ H (c.wpIn F n P (sq Q))):J N ds w0 W σ H ((Code.scope c).wpIn F n P Q):=fun a w ha hw=>wpIn_scope (h a w ha hw)
theorem c_label{l:Nat}(h:J N ds w0 W σ H (Q .normal)):J N ds w0 W σ H ((Code.label l).wpIn F n P Q):=fun a w ha hw=>wpIn_label (h a w ha hw)
end
instance {F:Fence}{n:Nat}{P:Program}{Q:Exit→Act→World→Prop}(c:Code):CC ((Code.scope c).wpIn F n P Q) (c.wpIn F n P (sq Q)):=⟨c_scope⟩
instance {F:Fence}{n:Nat}{P:Program}{Q:Exit→Act→World→Prop}(l:Nat):CC ((Code.label l).wpIn F n P Q) (Q .normal):=⟨c_label⟩
instance {Q:Exit→Act→World→Prop}:CC (sq Q .normal) (Q .normal):=⟨fun h=>h⟩
instance {Q:Exit→Act→World→Prop}:CC (sq Q .ret) (Q .ret):=⟨fun h=>h⟩
theorem j_outC{P:Program}{N:Nat}{w0:World}{W:Nat→Prop}{σ:List (Nat×Value)}{H:List HE}{fn:Func}{t:Tmp}{b ty sz bs:Nat}{z:Value}{dd:TypeDesc}{cs:List Value}{k:HE→List HE}{S':List HE}{Rl:Value→List HE→Prop}[Und P ty dd][hd:YesAgg dd][Inf P ty sz bs z][hb:At b H ty cs k]
  (hres:fn.results=#[.cell t ty]) (hv:look σ t=some (.pointer (some ⟨b,0,none⟩))) (hl:cs.length=sz) (hs:Sub S' H) (hR:Rl (.agg cs.toArray) S'):J N [] w0 W σ H (bodyPost P fn (fun e w'=>∃v S',e=.returned v∧Rl v S'∧St w0 W S' w') .ret) :=
 fun a w ha hw=>by
  obtain⟨R,h1,-⟩:=hb.h
  have hg:HE.holds w (.blk b ty cs):=(hw.perm h1.perm).own.holds _ (List.mem_cons_self ..)
  refine⟨ha.defers,_,results_cell_row (d:=dd) hres _ _ b ty cs.toArray (0,0) (by rw[getD_of ha hv]) hg Und.h ?_ (by simpa [hl] using (Inf.size (P:=P) (t:=ty))),_,S',rfl,hR,hw.sub hs⟩
  have:=hd.h
  cases dd<;>simp_all [aggB]
def fieldV(z:List Int)(i:Nat):Int:=if i<z.length then z.getD i 0 else if 0<z.length then IntKind.i16.wrap ((z.getD (i%z.length) 0).tdiv 2)else ((i%7:Nat):Int)
def fieldF(z:List Int)(m:Nat):List Int:=(List.range m).map (fieldV z)
theorem fieldF_len(z:List Int)(m:Nat):(fieldF z m).length=m:=by simp[fieldF]
theorem fieldF_succ(z:List Int)(m:Nat):fieldF z (m+1)=fieldF z m++[fieldV z m]:=by simp[fieldF,List.range_succ]
attribute [local irreducible] OJ J HdJ Code.wpIn wpListIn Oper.wpIn bodyPost CallsIn Does
theorem field_any(a b:Int)(ha:InR .u8 a)(hb:InR .u8 b)(W H:Nat)(hW:2+a%39=W)(hH:2+b%39=H)(A:Option Addr)(c:Nat)(z:List Int)(w:World)(hr:RoA w (blocks []) A z.length c 1 (ints .i16 z))(hm:z.length<1000000):
  Does Tryz.prog 52 [.int .u8 a,.int .u8 b,.slice A z.length c] [] w (fun v S'=>∃A' c',v=.agg #[.int .i64 W,.int .i64 H,.slice A' (fieldF z (W*H)).length c']∧S'=[.row (.slice A' (fieldF z (W*H)).length c') 86 1 (fieldF z (W*H)).length (ints .i16 (fieldF z (W*H)))]):=by
 have ha1:0≤a∧a≤255:=ha
 have hb1:0≤b∧b≤255:=hb
 have hW2:2≤W∧W≤40:=by omega
 have hH2:2≤H∧H≤40:=by omega
 have hWH:W*H≤1600:=by have:=Nat.mul_le_mul hW2.2 hH2.2;omega
 have hcast:(W:Int)*H=((W*H:Nat):Int):=by push_cast;rfl
 have hmul:0≤(W:Int)*H∧(W:Int)*H≤1600:=by rw[hcast];omega
 refine does_of Tryz.func52 rfl Tryz.ntmps52 rfl ⟨by simp,.nil⟩ (fun n=>?_)
 simp only[slots]
 refine j_nil (e:=86) (size:=1) ?_
 refine z_gox
 rw[hW,hH]
 rename_i b6 b7
 refine c_loop (X:=Nat×Option Addr×Nat) (fun q=>q.1≤W*H) (fun q=>[(2,.slice A z.length c),(6,.pointer (some ⟨b6,0,none⟩)),(7,.pointer (some ⟨b7,0,none⟩)),(8,.int .i64 q.1)])
  (fun q=>[.blk b7 41 [.int .i64 W,.int .i64 H,.slice q.2.1 (fieldF z q.1).length q.2.2],.blk b6 41 [.int .i64 0,.int .i64 0,.slice none 0 0],.row (.slice q.2.1 (fieldF z q.1).length q.2.2) 86 1 (fieldF z q.1).length (ints .i16 (fieldF z q.1))]) (fun q=>W*H-q.1) (0,none,0) (by simp) ⟨rfl,rfl,rfl,rfl,trivial⟩ (Sub.refl _) ?_
 rintro⟨i,A1,c1⟩ hi
 simp only at hi ⊢
 have hfl:=fieldF_len z i
 have hfs:=fieldF_succ z i
 refine z_gox
 refine c_cond rfl (fun h=>?_) (fun h=>?_)
 ·have hlt:i<W*H:=by have:=of_decide_eq_true h;omega
  refine z_gox
  refine c_cond rfl (fun h2=>?_) (fun h2=>?_)
  ·have h2':i<z.length:=by have:=of_decide_eq_true h2;omega
   have hfv:fieldV z i=z.getD i 0:=if_pos h2'
   obtain⟨bA,oA,rfl,hA⟩:=hr.at_ (by omega:0<z.length)
   rw[hfv]at hfs
   refine z_gox
   rename_i A2 c2
   exact c_round (i+1,A2,c2) (by show i+1≤_;omega) (by show _-(i+1)<_-i;omega) ⟨rfl,rfl,rfl,by simp[look],trivial⟩ (by simp only[hfs];exact Sub.au)
  ·have h2':¬i<z.length:=by have:=of_decide_eq_false h2;omega
   refine z_gox
   refine c_cond rfl (fun h3=>?_) (fun h3=>?_)
   ·have h3':0<z.length:=by have:=of_decide_eq_true h3;omega
    have hfv:fieldV z i=IntKind.i16.wrap ((z.getD (i%z.length) 0).tdiv 2):=by unfold fieldV;rw[if_neg h2',if_pos h3']
    have hmc:(i:Int)%(z.length:Int)=((i%z.length:Nat):Int):=by push_cast;rfl
    have hml:=Nat.mod_lt i h3'
    have hmt:((i:Int)%(z.length:Int)).toNat=i%z.length:=by rw[hmc,Int.toNat_natCast]
    have hmi:0≤(i:Int)%(z.length:Int)∧(i:Int)%(z.length:Int)<z.length:=by rw[hmc];omega
    rw[hfv,← hmt]at hfs
    obtain⟨bA,oA,rfl,hA⟩:=hr.at_ h3'
    refine z_gox
    rename_i A2 c2
    exact c_round (i+1,A2,c2) (by show i+1≤_;omega) (by show _-(i+1)<_-i;omega) ⟨rfl,rfl,rfl,by simp[look],trivial⟩ (by simp only[hfs];exact Sub.au)
   ·have h3':¬0<z.length:=by have:=of_decide_eq_false h3;omega
    have hfv:fieldV z i=(i:Int)%7:=by unfold fieldV;rw[if_neg h2',if_neg h3'];push_cast;rfl
    rw[hfv]at hfs
    refine z_gox
    rename_i A2 c2
    exact c_round (i+1,A2,c2) (by show i+1≤_;omega) (by show _-(i+1)<_-i;omega) ⟨rfl,rfl,rfl,by simp[look],trivial⟩ (by simp only[hfs];exact Sub.au)
 ·obtain rfl:i=W*H:=by have:=of_decide_eq_false h;omega
  refine z_gox
  exact j_outC rfl rfl rfl Sub.au ⟨_,_,rfl,rfl⟩
end Go.Proofs.YthajpemlpmlefaaGreat
namespace Go.Proofs.YthajpemlpmlefaaGreat
open Go.RowKit
theorem t_litG{F:Fence}{n:Nat}{P:Program}{N:Nat}{ds:List Deferred}{w0:World}{W:Nat→Prop}{σ:List (Nat×Value)}{H HL:List HE}{Q:Exit→Act→World→Prop}{ops:Array Oper}{m:Nat}{rest:List Nat}{mask:List Bool}(b0:Bool){i j t:Nat}{o:Oper}{b:Bool}{r:List Nat}(hk:rest=i::r)(hio:ops.toList[i]? = some o)(hg:o.guard=some (j,b))(ht:(ops[j]?).bind (·.dst)=some t)(hv:look σ t=some (.bool b0))(h:J N ds w0 W σ H (wpT F n P w0 W HL ops mask Q m rest)):J N ds w0 W σ H (wpT F n P w0 W HL ops mask Q m rest):=h
def tailOk(ops:Array Oper)(k:Nat)(xs:List Nat):Bool:=Nat.ble k ops.size&&(List.range ops.size).all fun i=>Nat.blt i k||(((List.range k).all fun j=>xs.contains j||edgeB ops i j)&&(Nat.beq i k||edgeB ops i (i-1)))
theorem litB_none{ops:Array Oper}(i:Nat):litB ops (List.replicate ops.size false) i=true:=by
 unfold litB
 refine List.all_eq_true.2 fun j hj=>?_
 have:mAt (List.replicate ops.size false) j=false:=by
  unfold mAt
  rw[List.getD_eq_getElem?_getD,List.getElem?_replicate]
  split<;>rfl
 rw[this];rfl
section
variable {F:Fence} {n:Nat} {P:Program} {N:Nat} {ds:List Deferred} {w0:World} {W:Nat→Prop} {σ:List (Nat×Value)} {H HL:List HE} {Q:Exit→Act→World→Prop} {ops:Array Oper}
def tailQ(F:Fence)(n:Nat)(P:Program)(ops:Array Oper)(Q:Exit→Act→World→Prop)(l:List Oper):Exit→Act→World→Prop:=fun _=>wpListIn F n P ops (nq fun _=>Q .normal) l
theorem tail_tree(hb:∀i,litB ops (List.replicate ops.size false) i=true):
  ∀(t:Nat) (k:Nat),k+t=ops.size→(∀i,k<i→i<ops.size→edgeB ops i (i-1)=true)→∀(b:Act) (w:World),wpListIn F n P ops (nq fun _=>Q .normal) (ops.toList.drop k) b w→wpT F n P w0 W HL ops (List.replicate ops.size false) Q t (List.range' k t) b w:=by
 intro t
 induction t with
 | zero =>
  intro k hk _ b w h
  rw[List.drop_eq_nil_of_le (by rw[Array.length_toList];omega)]at h
  exact h
 | succ t ih =>
  intro k hk he b w h
  refine⟨fun e=>by simp at e,fun i hi hr=>?_⟩
  have hik:i=k:=by
   rcases Nat.lt_or_ge k i with h1|h1
   ·have h2:i<ops.size:=by have:=List.mem_range'_1.1 hi;omega
    have h3:=he i h1 h2
    rw[hr (i-1) (List.mem_range'_1.2 ⟨by omega,by omega⟩)]at h3
    cases h3
   ·have:=List.mem_range'_1.1 hi;omega
  subst hik
  have hlt:i<ops.size:=by omega
  have e1:ops.toList.drop i=ops[i]::ops.toList.drop (i+1):=by
   rw[List.drop_eq_getElem_cons (by rw[Array.length_toList];exact hlt)];rfl
  have e2:(List.range' i (t+1)).erase i=List.range' (i+1) t:=by rw[List.range'_succ];simp
  have hopsAt:opsAt ops [i]=[ops[i]]:=by simp[opsAt,hlt]
  rw[hopsAt,e2]
  rw[e1]at h
  have hnext:∀(c:Act) (w':World),wpListIn F n P ops (nq fun _=>Q .normal) (ops.toList.drop (i+1)) c w'→wpListIn F n P ops (nq fun _ b'' w''=>(litB ops (List.replicate ops.size false) i=true∨St w0 W HL w'')∧wpT F n P w0 W HL ops (List.replicate ops.size false) Q t (List.range' (i+1) t) b'' w'') [] c w' :=
   fun c w' hh=>⟨.inl (hb i),ih (i+1) (by omega) (fun j h1 h2=>he j (by omega) h2) c w' hh⟩
  simp only[wpListIn]at h ⊢
  by_cases hw:Region.wanted ops[i] (yielded ops b.tmps)=true
  ·rw[if_pos hw]at h ⊢
   exact⟨h.1,uponIn_sim h.2 (fun u w' hh=>hnext _ w' hh) (fun x w' hh=>hnext _ w' hh)⟩
  ·rw[if_neg hw]at h ⊢
   exact⟨h.1,hnext _ w h.2⟩
def exB(ops:Array Oper)(xs:List Nat):Bool:=xs.all fun i=>match ops[i]? with
 | some o=>(match o.op,o.guard,o.dst with | .extract _ _,none,some _=>true|_,_,_=>false)&&xs.all fun j=>!edgeB ops i j
 | none=>false
theorem ext_run{x:Operand}{c:Nat}{o:Oper}(ho:o.op=.extract x c)(ρ:Operand→Value):(∃vs:Array Value,∃v,ρ x=.tuple vs∧vs[c]? = some v)∨∀(w:World) (a:Act) (K:Act→World→Prop) (Q:Exit→Act→World→Prop),¬o.uponIn F n P a K Q ((execOp ρ o).run P w):=by
 cases hx:ρ x with
 | tuple vs =>
  cases hv:vs[c]? with
  | some v=>exact .inl ⟨vs,v,rfl,hv⟩
  | none=>exact .inr fun w a K Q h=>by simp[execOp,ho,hx,Instr.extract,hv]at h;exact h
 | _=>exact .inr fun w a K Q h=>by simp[execOp,ho,hx,Instr.extract]at h;exact h
theorem head_tree[hF:Wide F]{k:Nat}(xs:List Nat)(hk:k≤ops.size)(hV:RegV ops)(hbk:∀i j,edgeB ops i j=true→j<i)(hb:∀i,litB ops (List.replicate ops.size false) i=true)(hex:exB ops xs=true)(hw1:∀i j,k≤i→i<ops.size→j<k→j ∉ xs→edgeB ops i j=true)(hch:∀i,k<i→i<ops.size→edgeB ops i (i-1)=true){mask:List Bool}:
  ∀(m:Nat) (rest:List Nat) (b:Act) (w:World),rest.length≤m→rest.Nodup→(∀i∈rest,i<k)→wpT F n P w0 W HL ops mask (tailQ F n P ops Q (ops.toList.drop k)) m rest b w→wpT F n P w0 W HL ops (List.replicate ops.size false) Q (rest.length+(ops.size-k)) (rest++List.range' k (ops.size-k)) b w:=by
 intro m
 induction m with
 | zero =>
  intro rest b w hl hnd hr h
  obtain rfl:rest=[]:=List.length_eq_zero_iff.1 (by omega)
  rw[List.length_nil,Nat.zero_add,List.nil_append]
  exact tail_tree hb _ k (by omega) hch b w h
 | succ m ih =>
  intro rest b w hl hnd hr h
  cases hrest:rest with
  | nil =>
   subst hrest
   rw[List.length_nil,Nat.zero_add,List.nil_append]
   exact tail_tree hb _ k (by omega) hch b w (wpT_nil h)
  | cons x r =>
   rw[← hrest]
   have hne:rest≠[]:=by rw[hrest];simp
   have hx:x∈rest:=by rw[hrest];exact List.mem_cons_self ..
   have hlen:∀i∈rest,(rest.erase i).length+1=rest.length:=fun i hi=>by have:=List.length_erase_of_mem hi;have:=List.length_pos_of_mem hi;omega
   have hll:∀i∈rest,(rest.erase i).length≤m:=fun i hi=>by have:=hlen i hi;omega
   have hrr:∀i,∀j∈rest.erase i,j<k:=fun i j hj=>hr j (List.mem_of_mem_erase hj)
   by_cases hall:∀j∈rest,j∈xs
   ·
    have hxx:=List.all_eq_true.1 hex x (hall x hx)
    cases hio:ops[x]? with
    | none=>rw[hio]at hxx;cases hxx
    | some o =>
     rw[hio]at hxx
     simp only[Bool.and_eq_true]at hxx
     obtain⟨hsh,hne2⟩:=hxx
     have hready:∀j∈rest,edgeB ops x j=false:=fun j hj=>by
      have:=List.all_eq_true.1 hne2 j (hall j hj)
      simpa using this
     have hwp:=h.2 x hx hready
     have hopsAt:opsAt ops [x]=[o]:=by simp[opsAt,hio]
     rw[hopsAt]at hwp
     cases hop:o.op with
     | extract y c =>
      cases hg:o.guard with
      | some g=>rw[hop,hg]at hsh;cases hsh
      | none =>
       cases hd:o.dst with
       | none=>rw[hop,hg,hd]at hsh;cases hsh
       | some d =>
        have hwt:∀a:Act,Region.wanted o (yielded ops a.tmps)=true:=fun a=>by unfold Region.wanted;rw[hg]
        have hndf:∀c,o.op≠.defer c:=fun c e=>by rw[hop]at e;cases e
        simp only[wpListIn]at hwp
        rw[if_pos (hwt b)]at hwp
        have h2:=hwp.2
        rw[Oper.semAt_plain F _ _ hndf]at h2
        rcases ext_run (F:=F) (n:=n) (P:=P) hop b.eval with⟨vs,v,hy,hv⟩|hbad
        ·have hrun:∀a:Act,a.eval y=.tuple vs→∀w,(execOp a.eval o).run P w=.ok (.value v) w:=fun a ha w=>by simp[execOp,hop,ha,Instr.extract,hv]
         rw[hrun b hy w,Oper.uponIn_value,hd]at h2
         have h3:=ih _ _ _ (hll x hx) (hnd.erase x) (hrr x) h2.2
         have hlx:=hlen x hx
         rw[show rest.length+(ops.size-k)=((rest.erase x).length+(ops.size-k))+1 by omega]
         have hAt:=hV.at_ hio
         refine pick_core (v:=v) (L:=fun t=>b.tmps[t]?) hio hd (fun j o' hj=>(hV.at_ hj).1) (fun j o' hj hjo=>(hAt.2.2 d hd).2 j o' hj hjo) (fun a ha=>⟨hwt a,hrun a ?_⟩) _ _ b w (List.mem_append_left _ hx) (by rw[List.length_append,List.length_range'];omega) (fun _ _ _=>hb x) (fun j hj t ht hm=>?_) (.inl (hb x)) (fun t _ u hu=>hu) ?_
         ·cases y with
          | tmp t =>
           have hl:t∈o.looksAt ops:=List.mem_append_left _ (List.mem_filterMap.2 ⟨.tmp t,by rw[hop];simp[Op.operands],rfl⟩)
           cases hb':b.tmps[t]? with
           | none =>
            have hy':b.tmps.getD t undef=.tuple vs:=hy
            rw[Array.getD_eq_getD_getElem?,hb']at hy'
            have:vs=#[]:=by injection hy' with e;exact e.symm
            subst this
            simp at hv
           | some u =>
            have hy':b.tmps.getD t undef=.tuple vs:=hy
            rw[Array.getD_eq_getD_getElem?,hb']at hy'
            show a.tmps.getD t undef=.tuple vs
            rw[Array.getD_eq_getD_getElem?,ha t hl u hb']
            exact hy'
          | const u=>exact hy
          | global g=>exact hy
          | func f=>exact hy
         ·have hj2:∃o',ops[j]? = some o'∧o'.dst=some t:=by
           unfold dstAt at ht
           cases hjo:ops[j]? with
           | none=>rw[hjo]at ht;cases ht
           | some o'=>rw[hjo]at ht;exact⟨o',rfl,ht⟩
          obtain⟨o',hjo,hjd⟩:=hj2
          by_cases hjx:j=x
          ·subst hjx
           rw[hio]at hjo;injection hjo with e;subst e
           exact(hAt.2.2 t hjd).1 hm
          ·have h5:=(((hV.at_ hjo).2.2 t hjd).2 x o (fun e=>hjx e.symm) hio).2 hm
           rcases List.mem_append.1 hj with h6|h6
           ·rw[hready j h6]at h5;cases h5
           ·have h7:=hbk x j h5
            have h8:=List.mem_range'_1.1 h6
            have:=hr x hx
            omega
         ·rw[List.erase_append_left _ hx]
          exact h3
        ·exact absurd h2 (hbad w b _ _)
     | _=>rw[hop]at hsh;cases hsh
   ·rw[Classical.not_forall]at hall
    obtain⟨z,hz⟩:=hall
    rw[Classical.not_imp]at hz
    have hx1:=hlen x hx
    rw[show rest.length+(ops.size-k)=((rest.erase x).length+(ops.size-k))+1 by omega]
    refine⟨fun e=>absurd (List.append_eq_nil_iff.1 e).1 hne,fun i hi hrd=>?_⟩
    have hir:i∈rest:=by
     rcases List.mem_append.1 hi with h1|h1
     ·exact h1
     ·have h2:=List.mem_range'_1.1 h1
      have h3:=hw1 i z (by omega) (by omega) (hr z hz.1) hz.2
      rw[hrd z (List.mem_append_left _ hz.1)]at h3
      cases h3
    have hwp:=h.2 i hir (fun j hj=>hrd j (List.mem_append_left _ hj))
    have e1:=hlen i hir
    rw[List.erase_append_left _ hir,show (rest.erase x).length=(rest.erase i).length by omega]
    cases hio:ops[i]? with
    | none =>
     have hopsAt:opsAt ops [i]=[]:=by simp[opsAt,hio]
     rw[hopsAt]at hwp ⊢
     exact⟨.inl (hb i),ih _ _ _ (hll i hir) (hnd.erase i) (hrr i) hwp.2⟩
    | some o' =>
     have hopsAt:opsAt ops [i]=[o']:=by simp[opsAt,hio]
     rw[hopsAt]at hwp ⊢
     simp only[wpListIn]at hwp ⊢
     by_cases hw:Region.wanted o' (yielded ops b.tmps)=true
     ·rw[if_pos hw]at hwp ⊢
      exact⟨hwp.1,uponIn_sim hwp.2 (fun u w' hh=>⟨.inl (hb i),ih _ _ _ (hll i hir) (hnd.erase i) (hrr i) hh.2⟩) (fun x w' hh=>⟨.inl (hb i),ih _ _ _ (hll i hir) (hnd.erase i) (hrr i) hh.2⟩)⟩
     ·rw[if_neg hw]at hwp ⊢
      exact⟨hwp.1,.inl (hb i),ih _ _ _ (hll i hir) (hnd.erase i) (hrr i) hwp.2.2⟩
theorem c_drp2{id:Nat}{l:List Oper}(HL:List HE)(xs:List Nat)(k:Nat)(r:List Nat)[hF:Wide F](hs:Sub HL H)(hr:(List.range k==r)=true)(hmx:P.follows .mixedOrders=true)(hok:maskOkX l.toArray (List.replicate l.toArray.size false)=true)(hp:(pvIdx l.toArray (List.replicate l.toArray.size false)).isEmpty=true)(hv:(hvIdx l.toArray (List.replicate l.toArray.size false)==List.range l.toArray.size)=true)(hk:(Nat.ble l.toArray.size 300&&regOk l.toArray)=true)(ht:(tailOk l.toArray k xs&&exB l.toArray xs)=true)
  (h:RegV l.toArray→J N ds w0 W σ H (wpT F n P w0 W HL l.toArray (List.replicate 300 true) (tailQ F n P l.toArray Q (l.drop k)) r.length r)):J N ds w0 W σ H ((Code.region id l.toArray true).wpIn F n P Q) :=
 c_drx HL _ (List.range l.toArray.size) hs (by simpa using hv) hmx hok (by
  simp only[Bool.and_eq_true]at hk
  have hV:RegV l.toArray:=⟨hk.2,Nat.le_of_ble_eq_true hk.1⟩
  rw[List.isEmpty_iff.1 hp]
  refine x_nil ?_
  have e:List.range k=r:=by simpa using hr
  subst e
  unfold tailOk at ht
  simp only[Bool.and_eq_true]at ht
  obtain⟨⟨hkl,ht⟩,hex⟩:=ht
  have hkl:k≤l.toArray.size:=Nat.le_of_ble_eq_true hkl
  have hbk:∀i j,edgeB l.toArray i j=true→j<i:=by
   intro i j he
   unfold maskOkX at hok
   simp only[Bool.and_eq_true]at hok
   have hi:i<l.toArray.size:=by
    rcases Nat.lt_or_ge i l.toArray.size with h1|h1
    ·exact h1
    ·unfold edgeB at he;rw[Array.getElem?_eq_none h1]at he;cases he
   have h1:=List.all_eq_true.1 hok.1.2 i (List.mem_range.2 hi)
   unfold backB at h1
   unfold edgeB at he
   rw[Array.getElem?_eq_getElem hi]at h1 he
   simp only[Array.any_eq_true]at he
   obtain⟨q,hq,he⟩:=he
   simp only[Bool.and_eq_true,beq_iff_eq]at he
   have h2:=(Array.all_eq_true.1 h1) q hq
   rw[he.1,← he.2]at *
   simpa [he.1] using h2
  have hw1:∀i j,k≤i→i<l.toArray.size→j<k→j ∉ xs→edgeB l.toArray i j=true:=by
   intro i j h1 h2 h3 hx
   have h4:=List.all_eq_true.1 ht i (List.mem_range.2 h2)
   have e:Nat.blt i k=false:=by
    cases hb:Nat.blt i k with
    | false=>rfl
    | true=>exact absurd (show i<k by simpa using hb) (by omega)
   rw[e,Bool.false_or,Bool.and_eq_true]at h4
   have h5:=List.all_eq_true.1 h4.1 j (List.mem_range.2 h3)
   have e2:xs.contains j=false:=by simpa using hx
   rw[e2,Bool.false_or]at h5
   exact h5
  have hch:∀i,k<i→i<l.toArray.size→edgeB l.toArray i (i-1)=true:=by
   intro i h1 h2
   have h4:=List.all_eq_true.1 ht i (List.mem_range.2 h2)
   have e:Nat.blt i k=false:=by
    cases hb:Nat.blt i k with
    | false=>rfl
    | true=>exact absurd (show i<k by simpa using hb) (by omega)
   have e2:Nat.beq i k=false:=by
    cases hb:Nat.beq i k with
    | false=>rfl
    | true=>have:=Nat.eq_of_beq_eq_true hb;omega
   rw[e,Bool.false_or,Bool.and_eq_true,e2,Bool.false_or]at h4
   exact h4.2
  intro a w ha hst
  have h5:=head_tree (F:=F) (n:=n) (P:=P) (w0:=w0) (W:=W) (HL:=HL) (Q:=Q) (ops:=l.toArray) xs hkl hV hbk (fun i=>litB_none i) hex hw1 hch k (List.range k) a w (by simp) List.nodup_range (fun i hi=>List.mem_range.1 hi) (by
   have h6:=h hV a w ha hst
   rw[List.length_range]at h6
   exact h6)
  rw[List.length_range,show k+(l.toArray.size-k)=l.toArray.size by omega]at h5
  rw[List.length_range]
  have e3:List.range k++List.range' k (l.toArray.size-k)=List.range l.toArray.size:=by
   rw[List.range_eq_range',List.range_eq_range']
   have:=List.range'_append_1 (s:=0) (m:=k) (n:=l.toArray.size-k)
   rw[Nat.zero_add,Nat.add_sub_cancel' hkl]at this
   exact this
  rw[e3]at h5
  exact h5)
theorem c_dp{id:Nat}{l:List Oper}(xs:List Nat)(k:Nat)(r:List Nat)[hF:Wide F](h:RegV l.toArray→J N ds w0 W σ H (wpT F n P w0 W H l.toArray (List.replicate 300 true) (tailQ F n P l.toArray Q (l.drop k)) r.length r))(hr:(List.range k==r)=true:=by decide +kernel)(hmx:P.follows .mixedOrders=true:=by decide)(hok:maskOkX l.toArray (List.replicate l.toArray.size false)=true:=by decide +kernel)(hp:(pvIdx l.toArray (List.replicate l.toArray.size false)).isEmpty=true:=by decide +kernel)(hv:(hvIdx l.toArray (List.replicate l.toArray.size false)==List.range l.toArray.size)=true:=by decide +kernel)(hk:(Nat.ble l.toArray.size 300&&regOk l.toArray)=true:=by decide +kernel)(ht:(tailOk l.toArray k xs&&exB l.toArray xs)=true:=by decide +kernel):
  J N ds w0 W σ H ((Code.region id l.toArray true).wpIn F n P Q):=c_drp2 H xs k r (Sub.refl _) hr hmx hok hp hv hk ht h
theorem c_dv{id:Nat}{l:List Oper}(r:List Nat)[hF:Wide F](h:RegV l.toArray→J N ds w0 W σ H (wpT F n P w0 W H l.toArray (List.replicate 300 true) Q r.length r))(hr:(hvIdx l.toArray (List.replicate l.toArray.size false)==r)=true:=by decide +kernel)(hmx:P.follows .mixedOrders=true:=by decide)(hok:maskOkX l.toArray (List.replicate l.toArray.size false)=true:=by decide +kernel)(hp:(pvIdx l.toArray (List.replicate l.toArray.size false)).isEmpty=true:=by decide +kernel)(hk:(Nat.ble l.toArray.size 300&&regOk l.toArray)=true:=by decide +kernel):J N ds w0 W σ H ((Code.region id l.toArray true).wpIn F n P Q):=c_drv H r (Sub.refl _) hr hmx hok hp hk h
theorem c_dvL{id:Nat}{l:List Oper}(HL:List HE)(r:List Nat)[hF:Wide F](hs:Sub HL H)(h:RegV l.toArray→J N ds w0 W σ H (wpT F n P w0 W HL l.toArray (List.replicate 300 true) Q r.length r))(hr:(hvIdx l.toArray (List.replicate l.toArray.size false)==r)=true:=by decide +kernel)(hmx:P.follows .mixedOrders=true:=by decide)(hok:maskOkX l.toArray (List.replicate l.toArray.size false)=true:=by decide +kernel)(hp:(pvIdx l.toArray (List.replicate l.toArray.size false)).isEmpty=true:=by decide +kernel)(hk:(Nat.ble l.toArray.size 300&&regOk l.toArray)=true:=by decide +kernel):J N ds w0 W σ H ((Code.region id l.toArray true).wpIn F n P Q):=c_drv HL r hs hr hmx hok hp hk h
theorem t_tail{rest:List Nat}{mask:List Bool}{l:List Oper}(h:J N ds w0 W σ H (wpListIn F n P ops (nq fun _=>Q .normal) l)):J N ds w0 W σ H (wpT F n P w0 W HL ops mask (tailQ F n P ops Q l) 0 rest):=h
instance {k:Act→World→Prop}:CC (nq (fun _=>k) .normal) k:=⟨fun h=>h⟩
end
theorem msM{P:Program}{w0:World}{W:Nat→Prop}{H:List HE}{op:Op}{vs:List Value}{v v':Value}{c:Prop}(h:MS P w0 W H op vs v c)(hc:c)(e:v=v'):MS P w0 W H op vs v' True:=by subst e;exact⟨fun _=>h.h hc⟩
theorem msW{P:Program}{w0:World}{W:Nat→Prop}{H:List HE}{op:Op}{vs:List Value}{v v':Value}{c:Prop}(h:MW P w0 W H op vs v c)(hc:c)(e:v=v'):MS P w0 W H op vs v' True:=by subst e;exact⟨fun _=>h.h hc⟩
theorem c_joinL{F:Fence}{n:Nat}{P:Program}{N:Nat}{ds:List Deferred}{w0:World}{W:Nat→Prop}{σ:List (Nat×Value)}{H:List HE}{K:Act→World→Prop}{Q:Exit→Act→World→Prop}{x:Code}{id:Nat}{X:Type}(R:X→Prop)(σI:X→List (Nat×Value))(HI:X→List HE)
  (hx:J N ds w0 W σ H (x.wpIn F n P (Exit.inBlock id (Exit.then (fun a w=>∃z,R z∧True∧Tm N ds (σI z) a∧St w0 W (HI z) w) Q)))) (hy:∀z,R z→J N ds w0 W (σI z) (HI z) K):J N ds w0 W σ H (x.wpIn F n P (Exit.inBlock id (Exit.then K Q))) :=
 hx.mono fun a w h=>wpIn_mono h (by
  rintro e a w h
  cases e with
  | normal=>obtain⟨z,h1,-,h2,h3⟩:=h;exact hy z h1 a w h2 h3
  | exit k =>
   by_cases hk:k=id
   ·subst hk
    simp only[Exit.inBlock,if_pos]at h ⊢
    obtain⟨z,h1,-,h2,h3⟩:=h
    exact hy z h1 a w h2 h3
   ·simp only[Exit.inBlock,if_neg hk]at h ⊢
    exact h
  | _=>exact h)
section
variable {P:Program} {w0:World} {W:Nat→Prop} {H:List HE}
end
open Go.ChangeAt Go.ChangeShapes Go.Deep Go.Joins Go.WideShapes
section
variable {H:Type} {enc:TypeId×Value→H} {P:Program} {w:World} {base:Nat} {spare:Nat→Bool} {held:Bool}
theorem trodAll_six{t0 t1 t2 t3 t4 t5:TypeId}{args:Array Value}{ds:List (DataW H)}{ps:List MemPlace}(h:DataW.TrodAll enc P w base spare held [t0,t1,t2,t3,t4,t5] args.toList ds ps):
  ∃v0 v1 v2 v3 v4 v5 d0 d1 d2 d3 d4 d5 p0 p1 p2 p3 p4 p5,args=#[v0,v1,v2,v3,v4,v5]∧ds=[d0,d1,d2,d3,d4,d5]∧ps=p0++p1++p2++p3++p4++p5∧DataW.Trod enc P w base spare held t0 v0 d0 p0∧DataW.Trod enc P w base spare held t1 v1 d1 p1∧DataW.Trod enc P w base spare held t2 v2 d2 p2∧DataW.Trod enc P w base spare held t3 v3 d3 p3∧DataW.Trod enc P w base spare held t4 v4 d4 p4∧DataW.Trod enc P w base spare held t5 v5 d5 p5:=by
 obtain⟨v0,vs0,d0,ds0,p0,q0,hargs,rfl,rfl,k0,h0⟩:=trodAll_cons h
 obtain⟨v1,vs1,d1,ds1,p1,q1,rfl,rfl,rfl,k1,h1⟩:=trodAll_cons h0
 obtain⟨v2,vs2,d2,ds2,p2,q2,rfl,rfl,rfl,k2,h2⟩:=trodAll_cons h1
 obtain⟨v3,vs3,d3,ds3,p3,q3,rfl,rfl,rfl,k3,h3⟩:=trodAll_cons h2
 obtain⟨v4,vs4,d4,ds4,p4,q4,rfl,rfl,rfl,k4,h4⟩:=trodAll_cons h3
 obtain⟨v5,vs5,d5,ds5,p5,q5,rfl,rfl,rfl,k5,h5⟩:=trodAll_cons h4
 obtain⟨rfl,rfl,rfl⟩:=trodAll_nil h5
 exact⟨v0,v1,v2,v3,v4,v5,d0,d1,d2,d3,d4,d5,p0,p1,p2,p3,p4,p5,by cases args;simp_all,rfl,by simp,k0,k1,k2,k3,k4,k5⟩
def IsRow:List IntKind→List Value→Prop
 | [],cs=>cs=[]
 | k::ks,cs=>∃n r,cs=.int k n::r∧InR k n∧IsRow ks r
theorem IsRow.app:∀{ks ls:List IntKind} {cs ds:List Value},IsRow ks cs→IsRow ls ds→IsRow (ks++ls) (cs++ds)
 | [],_,_,_,h,g=>by rw[show _=[]from h];simpa using g
 | k::ks,_,_,_,⟨n,r,e,hn,h⟩,g=>⟨n,r++_,by rw[e];rfl,hn,h.app g⟩
structure CellsT(P:Program)(t:TypeId)(ks:List IntKind):Prop where
 len:P.cellsOf t=ks.length
 h:∀{H:Type} {enc:TypeId×Value→H} {w:World} {base:Nat} {spare:Nat→Bool} {held:Bool} {fuel:Nat} {cs:List Value} {x:DataW H×List MemPlace},DataW.trod enc P w base spare held fuel t cs=some x→IsRow ks cs
theorem cells_int{t:TypeId}{k:IntKind}(ht:P.underlying t=some (.int k))(hc:P.cellsOf t=1):CellsT P t [k]:=⟨hc,fun h=>by
 obtain⟨n,rfl,-,hwf⟩:=DataW.trod_int ht h
 exact⟨n,[],rfl,wf_in hwf,rfl⟩⟩
def FieldsOk(P:Program):List Field→Nat→List (List IntKind)→Prop
 | [],_,kss=>kss=[]
 | f::fs,off,kss=>∃ks r,kss=ks::r∧f.offset=off∧CellsT P f.type ks∧FieldsOk P fs (off+ks.length) r
theorem fields_row{cs:List Value}: ∀(fs:List Field) (off:Nat) (kss:List (List IntKind)),FieldsOk P fs off kss→off+kss.flatten.length≤cs.length →
  (∀f∈fs,∃(n:Nat) (x:DataW H×List MemPlace),DataW.trod enc P w base spare held n f.type ((cs.drop f.offset).take (P.cellsOf f.type))=some x)→IsRow kss.flatten ((cs.drop off).take kss.flatten.length)
 | [],off,kss,h,_,_=>by rw[show kss=[]from h];simp[IsRow]
 | f::fs,off,_,⟨ks,r,rfl,ho,hk,hr⟩,hl,hf=>by
  obtain⟨n,x,hx⟩:=hf f (List.mem_cons_self ..)
  have h1:=hk.h hx
  rw[ho,hk.len]at h1
  rw[List.flatten_cons,List.length_append]at hl ⊢
  have h2:=fields_row fs (off+ks.length) r hr (by omega) (fun g hg=>hf g (List.mem_cons_of_mem _ hg))
  have e:(cs.drop off).take (ks.length+r.flatten.length)=(cs.drop off).take ks.length++(cs.drop (off+ks.length)).take r.flatten.length:=by
   rw[List.take_add,List.drop_drop]
  rw[e]
  exact h1.app h2
theorem cells_struct{t:TypeId}{fs:Array Field}(kss:List (List IntKind))(ht:P.underlying t=some (.struct fs))(hf:FieldsOk P fs.toList 0 kss)(hc:P.cellsOf t=kss.flatten.length):CellsT P t kss.flatten:=⟨hc,fun {H enc w base spare held fuel cs x} h=>by
 obtain⟨xs,n,-,-,hl,hxl,hat⟩:=DataW.trod_struct ht h
 have:=fields_row (enc:=enc) (w:=w) (base:=base) (spare:=spare) (held:=held) (cs:=cs) fs.toList 0 kss hf (by omega) (fun f hf=>by
  obtain⟨i,hi,rfl⟩:=List.getElem_of_mem hf
  have hi':i<fs.size:=by simpa using hi
  have h1:=hat i fs[i] (Array.getElem?_eq_getElem hi')
  rw[List.getElem?_eq_getElem (by omega:i<xs.length)]at h1
  exact⟨n,_,by simpa using h1⟩)
 rw[List.drop_zero,List.take_of_length_le (by omega)]at this
 exact this⟩
theorem gate_row{r:Reach}{b0:Nat}{t:TypeId}{fs:Array Field}{ks:List IntKind}{v:Value}{d:DataW H}{ps:List MemPlace}(ht:P.underlying t=some (.struct fs))(hk:CellsT P t ks)(hv:Value.okWide P w r b0 t v)(h:DataW.Trod enc P w base spare held t v d ps):
  ∃cs:List Value,v=.agg cs.toArray∧IsRow ks cs:=by
 obtain⟨cs,rfl,hsz⟩:=okWide_struct ht hv
 obtain⟨fuel,hf⟩:=h
 exact⟨cs.toList,by simp,hk.h hf⟩
theorem list_ofP{α:Type}{Q:Nat→α→Prop}{n:Nat}(h:∀i,i<n→∃f,Q i f):∃l:List α,l.length=n∧∀i f,l[i]? = some f→Q i f:=by
 induction n with
 | zero=>exact⟨[],rfl,by simp⟩
 | succ n ih =>
  obtain⟨l,hl,hp⟩:=ih (fun i hi=>h i (by omega))
  obtain⟨f,hf⟩:=h n (by omega)
  refine⟨l++[f],by simp[hl],fun i g hg=>?_⟩
  by_cases hi:i<l.length
  ·rw[List.getElem?_append_left hi]at hg;exact hp i g hg
  ·have hb:i<(l++[f]).length:=(List.getElem?_eq_some_iff.1 hg).1
   have:i=l.length:=by simp at hb;omega
   subst this
   simp at hg;subst hg;rw[hl];exact hf
theorem gate_rows{α:Type}[Inhabited α]{en:α→List Value}{s:Nat}[hR:RowE en s]{ok:α→Prop}{r:Reach}{b0:Nat}{t e:TypeId}{ks:List IntKind}{v:Value}{d:DataW H}{ps:List MemPlace}(ht:P.underlying t=some (.slice e))(hk:CellsT P e ks)(hs:ks.length=s)
  (hun:∀cs,IsRow ks cs→∃a,ok a∧en a=cs) (hv:Value.okWide P w r b0 t v) (h:DataW.Trod enc P w 0 (fun _=>true) true t v d ps) :
  ∃(A:Option Addr) (c:Nat) (l:List α),v=.slice A l.length c∧RoA w (blocks []) A l.length c s (flat en l)∧∀x∈l,ok x:=by
 obtain⟨a0,len,cap,rfl⟩:=okWide_slice ht hv
 obtain⟨fuel,hf⟩:=h
 have hf':DataW.trod enc P w 0 (fun _=>true) true fuel t [.slice a0 len cap]=some (d,ps):=by simpa [Value.cells] using hf
 rcases open_slice ht hf' with⟨hcs,-⟩ | ⟨a,len',cap',m,n,D,Pl,hcs,hb,hl,hm,hmm,hx,hi⟩
 ·simp at hcs
  obtain⟨rfl,rfl,rfl⟩:=hcs
  exact⟨none,0,[],rfl,⟨Ro.nil _ _ _⟩,by simp⟩
 ·simp at hcs hmm
  obtain⟨rfl,rfl,rfl⟩:=hcs
  subst hmm
  have hel:∀i,i<len→∃f:α,ok f∧∀k u,(en f)[k]? = some u→w.cell? (a.add (i*s+k))=some u:=by
   intro i hil
   obtain⟨cs',hc,ht'⟩:=hi i (by omega)
   obtain⟨f,hok,he⟩:=hun cs' (hk.h ht')
   obtain⟨-,hcl,hat⟩:=World.cells?_some hc
   rw[hk.len,hs]at hcl hat
   refine⟨f,hok,fun k u hu=>?_⟩
   have hks:k<s:=by rw[← hR.h.1 f];exact(List.getElem?_eq_some_iff.1 hu).1
   rw[← Go.Deep.add_add,hat k hks,← he];exact hu
  obtain⟨l,rfl,hp⟩:=list_ofP hel
  refine⟨some a,_,l,rfl,⟨some a,_,rfl,hl,hm,flat_len l,fun hn=>?_⟩,fun f hf=>?_⟩
  ·obtain⟨f0,hf0⟩:∃f,l[0]? = some f:=⟨l[0],List.getElem?_eq_getElem hn⟩
   obtain⟨u0,hu0⟩:∃u,(en f0)[0]? = some u:=⟨(en f0)[0]'(by rw[hR.h.1];exact hR.h.2),List.getElem?_eq_getElem _⟩
   have hc0:=(hp 0 f0 hf0).2 0 _ hu0
   obtain⟨b,off,spot⟩:=a
   have hspot:spot=none:=by simpa [Addr.add] using World.cell?_spot hc0
   subst hspot
   have hblt:b<w.heap.size:=by
    rcases Nat.lt_or_ge b w.heap.size with hlt|hge
    ·exact hlt
    ·rw[add_none]at hc0;simp[World.cell?,Array.getElem?_eq_none hge]at hc0
   refine⟨b,off,rfl,hblt,(by rintro⟨x,hx,_⟩;cases hx),fun j u hu=>?_⟩
   have hjl:j<l.length*s:=by rw[← flat_len (e:=en) l];exact(List.getElem?_eq_some_iff.1 hu).1
   have hpos:=hR.h.2
   have hi2:j/s<l.length:=Nat.div_lt_of_lt_mul (by rw[Nat.mul_comm];exact hjl)
   have hj:j/s*s+j%s=j:=by rw[Nat.mul_comm];exact Nat.div_add_mod j s
   have h1:=flat_at (e:=en) l (j/s) (j%s) hi2 (Nat.mod_lt _ hpos)
   rw[hj,hu]at h1
   have hge:l[j/s]? = some (l.getD (j/s) default):=by rw[List.getD_eq_getElem?_getD,List.getElem?_eq_getElem hi2];rfl
   have:=(hp _ _ hge).2 _ u h1.symm
   rw[hj,add_none]at this
   exact this
  ·obtain⟨i,hi',rfl⟩:=List.getElem_of_mem hf
   exact(hp i _ (List.getElem?_eq_getElem hi')).1
end
theorem cells_i64:CellsT Tryz.prog 2 [.i64]:=cells_int Tryz.underlying2 (by kernel_rfl)
theorem cells_in:CellsT Tryz.prog 3 [.i64]:=cells_int Tryz.underlying3 (by kernel_rfl)
theorem cells_u16:CellsT Tryz.prog 48 [.u16]:=cells_int Tryz.underlying48 (by kernel_rfl)
theorem cells_u32:CellsT Tryz.prog 23 [.u32]:=cells_int Tryz.underlying23 (by kernel_rfl)
theorem cells_i32:CellsT Tryz.prog 21 [.i32]:=cells_int Tryz.underlying21 (by kernel_rfl)
theorem cells_spot:CellsT Tryz.prog 33 [.i64,.i64]:=cells_struct [[.i64],[.i64]] Tryz.underlying33 ⟨_,_,rfl,rfl,cells_i64,_,_,rfl,rfl,cells_i64,rfl⟩ (by kernel_rfl)
theorem cells_rules:CellsT Tryz.prog 25 [.u32,.i64,.i64,.i64]:=cells_struct [[.u32],[.i64],[.i64],[.i64]] Tryz.underlying25 ⟨_,_,rfl,rfl,cells_u32,_,_,rfl,rfl,cells_i64,_,_,rfl,rfl,cells_in,_,_,rfl,rfl,cells_i64,rfl⟩ (by kernel_rfl)
theorem cells_frame:CellsT Tryz.prog 50 [.i64,.u16,.u32,.i32,.i32,.i32]:=cells_struct [[.i64],[.u16],[.u32],[.i32],[.i32],[.i32]] Tryz.underlying50 ⟨_,_,rfl,rfl,cells_in,_,_,rfl,rfl,cells_u16,_,_,rfl,rfl,cells_u32,_,_,rfl,rfl,cells_i32,_,_,rfl,rfl,cells_i32,_,_,rfl,rfl,cells_i32,rfl⟩ (by kernel_rfl)
def Frm.ok(f:Frm):Prop:=InR .i64 f.kind∧InR .u16 f.seq∧InR .u32 f.time∧InR .i32 f.a∧InR .i32 f.b∧InR .i32 f.c
theorem un_frame:∀cs,IsRow [.i64,.u16,.u32,.i32,.i32,.i32] cs→∃a:Frm,a.ok∧frmE a=cs:=by
 rintro _ ⟨x0,_,rfl,h0,x1,_,rfl,h1,x2,_,rfl,h2,x3,_,rfl,h3,x4,_,rfl,h4,x5,_,rfl,h5,rfl⟩
 exact⟨⟨x0,x1,x2,x3,x4,x5⟩,⟨h0,h1,h2,h3,h4,h5⟩,rfl⟩
end Go.Proofs.YthajpemlpmlefaaGreat
namespace Go.Proofs.YthajpemlpmlefaaGreat
open Go.RowKit
def Ln.ok(s:Ln):Prop:=-2147483648≤s.high∧s.high<2147483648∧-4294967296≤s.last∧s.last≤4294967296∧1≤s.jump∧0≤s.threw∧s.threw≤1000
def Ln.radar(s:Ln)(time a:Int):Ln×Int×Int×Bool :=
 if a<0∨s.most<a then (s.note 2,2,0,false)
 else if s.has=false∨s.age<(time-s.since)%4294967296 then (s.note 3,3,0,false)
 else if s.based=true∧(s.jump<s.high-a-s.last∨s.high-a-s.last < -s.jump)then
  if s.threw<s.throw then (({ s with threw:=s.threw+1 }:Ln).note 4,4,0,false)
  else (({ s with last:=s.high-a,based:=true,threw:=0 }:Ln).note 5,5,s.high-a,true)
 else (({ s with last:=s.high-a,based:=true,threw:=0 }:Ln).note 0,0,s.high-a,true)
def TookR(w:World)(g:Nat)(t:TypeId)(cs:Array Value)(o:Nat)(r:Ln×Int×Int×Bool)(e:Ending)(w':World):Prop :=
 e=.returned (.tuple #[.int .i64 r.2.1,.int .i64 r.2.2.1,.bool r.2.2.2])∧Upd w g t cs o r.1.enc w'
theorem radar_any(g o:Nat)(t:TypeId)(cs:Array Value)(s:Ln)(kind seq time a b c:Int)(w:World)(H:Hold w g t cs o s.enc)(hok:s.ok)(ha : -2147483648≤a)(hb:a<2147483648):
  Calls Tryz.prog 74 #[.pointer (some ⟨g,o,none⟩),frm kind seq time a b c] w (TookR w g t cs o (s.radar time a)):=by
 obtain⟨i1,i2,i3,i4,i5,i6,i7⟩:=hok
 unfold TookR Ln.radar
 by_cases c1:a<0
 ·rw[if_pos (.inl c1)];exact radar_a g o t cs s kind seq time a b c w H ha hb c1
 by_cases c2:s.most<a
 ·rw[if_pos (.inr c2)];exact radar_b g o t cs s kind seq time a b c w H ha hb (by omega) c2
 rw[if_neg (by omega)]
 rcases(Bool.eq_false_or_eq_true s.has).symm with c3|c3
 ·rw[if_pos (.inl c3)];exact radar_c0 g o t cs s kind seq time a b c w H ha hb (by omega) (by omega) c3
 by_cases c4:s.age<(time-s.since)%4294967296
 ·rw[if_pos (.inr c4)];exact radar_d g o t cs s kind seq time a b c w H ha hb (by omega) (by omega) c3 c4
 rw[if_neg (by simp[c3];omega)]
 rcases(Bool.eq_false_or_eq_true s.based).symm with c5|c5
 ·rw[if_neg (by simp[c5])];exact radar_e g o t cs s kind seq time a b c w H ha hb (by omega) (by omega) c3 (by omega) i1 i2 i3 i4 i5 i6 i7 c5
 by_cases c6:s.jump<s.high-a-s.last
 ·rw[if_pos ⟨c5,.inl c6⟩]
  by_cases c7:s.threw<s.throw
  ·rw[if_pos c7];exact radar_g g o t cs s kind seq time a b c w H ha hb (by omega) (by omega) c3 (by omega) i1 i2 i3 i4 i5 i6 i7 c5 c6 c7
  ·rw[if_neg c7];exact radar_g2 g o t cs s kind seq time a b c w H ha hb (by omega) (by omega) c3 (by omega) i1 i2 i3 i4 i5 i6 i7 c5 c6 (by omega)
 by_cases c8:s.high-a-s.last < -s.jump
 ·rw[if_pos ⟨c5,.inr c8⟩]
  by_cases c7:s.threw<s.throw
  ·rw[if_pos c7];exact radar_h g o t cs s kind seq time a b c w H ha hb (by omega) (by omega) c3 (by omega) i1 i2 i3 i4 i5 i6 i7 c5 c8 c7
  ·rw[if_neg c7];exact radar_h2 g o t cs s kind seq time a b c w H ha hb (by omega) (by omega) c3 (by omega) i1 i2 i3 i4 i5 i6 i7 c5 c8 (by omega)
 rw[if_neg (by omega)]
 exact radar_f g o t cs s kind seq time a b c w H ha hb (by omega) (by omega) c3 (by omega) i1 i2 i3 i4 i5 i6 i7 c5 (by omega) (by omega)
def Ln.take(s:Ln)(kind seq time a:Int):Ln×Int×Int×Bool :=
 if kind<1∨5<kind then (s.note 2,2,0,false)
 else if s.late seq time then (s.note 1,1,0,false)
 else if kind=3 then (({ s.order seq time with high:=a,since:=time,has:=true }:Ln).note 0,0,0,false)
 else if kind=2 then (s.order seq time).radar time a
 else ((s.order seq time).note 6,6,0,false)
theorem order_ok(s:Ln)(seq time:Int)(h:s.ok):(s.order seq time).ok:=by
 unfold Ln.order;split<;>exact h
theorem order_upd{w0:World}(g o:Nat)(t:TypeId)(cs:Array Value)(s:Ln)(kind seq time a b c:Int)(w:World)(U:Upd w0 g t cs o s.enc w):
  Calls Tryz.prog 73 #[.pointer (some ⟨g,o,none⟩),frm kind seq time a b c] w fun e w'=>e=.returned (.bool (!(s.late seq time)))∧Upd w0 g t cs o (s.order seq time).enc w' :=
 (order_any g o t cs s kind seq time a b c w U.1).mono fun _ _ ⟨he,hu⟩=>⟨he,U.trans hu⟩
theorem radar_upd{w0:World}(g o:Nat)(t:TypeId)(cs:Array Value)(s:Ln)(kind seq time a b c:Int)(w:World)(U:Upd w0 g t cs o s.enc w)(hok:s.ok)(ha : -2147483648≤a)(hb:a<2147483648):
  Calls Tryz.prog 74 #[.pointer (some ⟨g,o,none⟩),frm kind seq time a b c] w (TookR w0 g t cs o (s.radar time a)) :=
 (radar_any g o t cs s kind seq time a b c w U.1 hok ha hb).mono fun _ _ ⟨he,hu⟩=>⟨he,U.trans hu⟩
theorem take_a(g o:Nat)(t:TypeId)(cs:Array Value)(s:Ln)(kind seq time a b c:Int)(w:World)(H:Hold w g t cs o s.enc)(hok:s.ok)(ha : -2147483648≤a)(hb:a<2147483648)
  (c1:kind<1) :
  Calls Tryz.prog 34 #[.pointer (some ⟨g,o,none⟩),frm kind seq time a b c] w (TookR w g t cs o (s.note 2,2,0,false)):=by
 have hg:=H.lt
 have HH:=Lib.hid H
 have HO:=Lib.hid hok
 clear H hok
 unfold frm
 go_enter Tryz.func34,Tryz.ntmps34
 go_wp2_with fail
 refine(note_upd g o t cs s 2 _ ((Upd.start HH.out).alloc _) (by decide) (by decide)).mono ?_
 rintro e w' ⟨rfl,hu'⟩
 go_wp2
 go_ret3
 exact⟨rfl,hu'⟩
theorem take_b(g o:Nat)(t:TypeId)(cs:Array Value)(s:Ln)(kind seq time a b c:Int)(w:World)(H:Hold w g t cs o s.enc)(hok:s.ok)(ha : -2147483648≤a)(hb:a<2147483648)
  (c1:5<kind) :
  Calls Tryz.prog 34 #[.pointer (some ⟨g,o,none⟩),frm kind seq time a b c] w (TookR w g t cs o (s.note 2,2,0,false)):=by
 have hg:=H.lt
 have HH:=Lib.hid H
 have HO:=Lib.hid hok
 clear H hok
 unfold frm
 go_enter Tryz.func34,Tryz.ntmps34
 go_wp2_with fail
 refine(note_upd g o t cs s 2 _ ((Upd.start HH.out).alloc _) (by decide) (by decide)).mono ?_
 rintro e w' ⟨rfl,hu'⟩
 go_wp2
 go_ret3
 exact⟨rfl,hu'⟩
theorem take_c(g o:Nat)(t:TypeId)(cs:Array Value)(s:Ln)(kind seq time a b c:Int)(w:World)(H:Hold w g t cs o s.enc)(hok:s.ok)(ha : -2147483648≤a)(hb:a<2147483648)
  (c1:1≤kind) (c2:kind≤5) (c3:s.late seq time=true) :
  Calls Tryz.prog 34 #[.pointer (some ⟨g,o,none⟩),frm kind seq time a b c] w (TookR w g t cs o (s.note 1,1,0,false)):=by
 have hg:=H.lt
 have HH:=Lib.hid H
 have e2:s.order seq time=s:=by simp[Ln.order,c3]
 have E2:=Lib.hid e2
 have HL:=Lib.hid c3
 clear c3 e2
 have HO:=Lib.hid hok
 clear H hok
 unfold frm
 go_enter Tryz.func34,Tryz.ntmps34
 go_wp2_with fail
 refine(order_upd g o t cs s kind seq time a b c _ ((Upd.start HH.out).alloc _)).mono ?_
 rintro e w1 ⟨rfl,hu⟩
 rw[HL.out]
 rw[E2.out]at hu
 go_wp2_with fail
 refine(note_upd g o t cs s 1 _ hu (by decide) (by decide)).mono ?_
 rintro e w' ⟨rfl,hu'⟩
 go_wp2
 go_ret3
 exact⟨rfl,hu'⟩
theorem high_done{w0 w:World}{g:Nat}{t:TypeId}{cs:Array Value}{o:Nat}{s:Ln}(H:Upd w0 g t cs o s.enc w)(a time:Int)(n:Nat):
  Upd w0 g t cs o (Ln.enc { s with high:=a,since:=time,has:=true }) ((((w.drewN n).setCell ⟨g,o+7,none⟩ (.int .i64 a)).setCell ⟨g,o+8,none⟩ (.int .u32 time)).setCell ⟨g,o+9,none⟩ (.bool true)) :=
 ((H.drewN n).set_ 7 (.int .i64 a) (by simp[Ln.enc]) |>.set_ 8 (.int .u32 time) (by simp[Ln.enc]) |>.set_ 9 (.bool true) (by simp[Ln.enc]))
theorem upd_from{w:World}{g:Nat}{t:TypeId}{cs:Array Value}{o:Nat}{ob:Obj}{xs:List Value}{w1:World}(hu:Upd (w.alloc ob) g t cs o xs w1):Upd w g t cs o xs w1 :=
 ⟨hu.1,only_trans (World.grownBy_alloc w ob _) hu.2⟩
theorem box_kept{w:World}{g:Nat}{t e:TypeId}{cs:Array Value}{o:Nat}{bs:Array Value}{xs:List Value}{w1:World}(hu:Upd (w.alloc (.cells bs e)) g t cs o xs w1)(hg:g<w.heap.size)(k:Nat)(v:Value)(hv:bs[k]? = some v):
  w1.cell? ⟨w.heap.size,k,none⟩=some v:=by
 refine hu.2.cell (a:=⟨w.heap.size,k,none⟩) ?_ (by simp;omega)
 exact(cell_of_row _ _ _ _ _ _ (heap_alloc_new w (.cells bs e))).trans hv
theorem take_d(g o:Nat)(t:TypeId)(cs:Array Value)(s:Ln)(kind seq time a b c:Int)(w:World)(H:Hold w g t cs o s.enc)(hok:s.ok)(ha : -2147483648≤a)(hb:a<2147483648)
  (c3:s.late seq time=false) (c1:kind=3) :
  Calls Tryz.prog 34 #[.pointer (some ⟨g,o,none⟩),frm kind seq time a b c] w (TookR w g t cs o (({ s.order seq time with high:=a,since:=time,has:=true }:Ln).note 0,0,0,false)):=by
 have hg:=H.lt
 have HH:=Lib.hid H
 subst c1
 have HL:=Lib.hid c3
 clear c3
 have HO:=Lib.hid hok
 clear H hok
 unfold frm
 go_enter Tryz.func34,Tryz.ntmps34
 go_wp2_with fail
 refine(order_any g o t cs s 3 seq time a b c _ (HH.out.alloc _)).mono ?_
 rintro e w1 ⟨rfl,hu⟩
 rw[HL.out]
 have b0:w1.cell? ⟨w.heap.size,0,none⟩=some (.int .i64 3):=box_kept hu hg 0 _ rfl
 have b1:w1.cell? ⟨w.heap.size,1,none⟩=some (.int .u16 seq):=box_kept hu hg 1 _ rfl
 have b2:w1.cell? ⟨w.heap.size,2,none⟩=some (.int .u32 time):=box_kept hu hg 2 _ rfl
 have b3:w1.cell? ⟨w.heap.size,3,none⟩=some (.int .i32 a):=box_kept hu hg 3 _ rfl
 have b4:w1.cell? ⟨w.heap.size,4,none⟩=some (.int .i32 b):=box_kept hu hg 4 _ rfl
 have b5:w1.cell? ⟨w.heap.size,5,none⟩=some (.int .i32 c):=box_kept hu hg 5 _ rfl
 have HU:=Lib.hid (upd_from hu)
 have HK:=Lib.hid (order_ok s seq time HO.out)
 generalize s.order seq time=s1 at *
 have H1:=hu.1
 have h7:w1.cell? ⟨g,o+7,none⟩=some (.int .i64 s1.high):=H1.cell_is rfl
 have h8:w1.cell? ⟨g,o+8,none⟩=some (.int .u32 s1.since):=H1.cell_is rfl
 have h9:w1.cell? ⟨g,o+9,none⟩=some (.bool s1.has):=H1.cell_is rfl
 have f7:w1.frozen? ⟨g,o+7,none⟩=false:=H1.frozen _
 have f8:w1.frozen? ⟨g,o+8,none⟩=false:=H1.frozen _
 have f9:w1.frozen? ⟨g,o+9,none⟩=false:=H1.frozen _
 clear hu H1
 go_wp2_with fail
 go_region
 all_goals go_wp2_with fail
 refine(note_upd g o t cs { s1 with high:=a,since:=time,has:=true } 0 _ (high_done HU.out _ _ _) (by decide) (by decide)).mono ?_
 rintro e w' ⟨rfl,hu'⟩
 go_wp2
 go_ret3
 exact⟨rfl,hu'⟩
theorem take_e(g o:Nat)(t:TypeId)(cs:Array Value)(s:Ln)(kind seq time a b c:Int)(w:World)(H:Hold w g t cs o s.enc)(hok:s.ok)(ha : -2147483648≤a)(hb:a<2147483648)
  (c3:s.late seq time=false) (c1:kind=2) :
  Calls Tryz.prog 34 #[.pointer (some ⟨g,o,none⟩),frm kind seq time a b c] w (TookR w g t cs o ((s.order seq time).radar time a)):=by
 have hg:=H.lt
 have HH:=Lib.hid H
 subst c1
 have HL:=Lib.hid c3
 clear c3
 have HO:=Lib.hid hok
 clear H hok
 unfold frm
 go_enter Tryz.func34,Tryz.ntmps34
 go_wp2_with fail
 refine(order_any g o t cs s 2 seq time a b c _ (HH.out.alloc _)).mono ?_
 rintro e w1 ⟨rfl,hu⟩
 rw[HL.out]
 have b0:w1.cell? ⟨w.heap.size,0,none⟩=some (.int .i64 2):=box_kept hu hg 0 _ rfl
 have b1:w1.cell? ⟨w.heap.size,1,none⟩=some (.int .u16 seq):=box_kept hu hg 1 _ rfl
 have b2:w1.cell? ⟨w.heap.size,2,none⟩=some (.int .u32 time):=box_kept hu hg 2 _ rfl
 have b3:w1.cell? ⟨w.heap.size,3,none⟩=some (.int .i32 a):=box_kept hu hg 3 _ rfl
 have b4:w1.cell? ⟨w.heap.size,4,none⟩=some (.int .i32 b):=box_kept hu hg 4 _ rfl
 have b5:w1.cell? ⟨w.heap.size,5,none⟩=some (.int .i32 c):=box_kept hu hg 5 _ rfl
 have HU:=Lib.hid (upd_from hu)
 have HK:=Lib.hid (order_ok s seq time HO.out)
 generalize s.order seq time=s1 at *
 have H1:=hu.1
 have h7:w1.cell? ⟨g,o+7,none⟩=some (.int .i64 s1.high):=H1.cell_is rfl
 have h8:w1.cell? ⟨g,o+8,none⟩=some (.int .u32 s1.since):=H1.cell_is rfl
 have h9:w1.cell? ⟨g,o+9,none⟩=some (.bool s1.has):=H1.cell_is rfl
 have f7:w1.frozen? ⟨g,o+7,none⟩=false:=H1.frozen _
 have f8:w1.frozen? ⟨g,o+8,none⟩=false:=H1.frozen _
 have f9:w1.frozen? ⟨g,o+9,none⟩=false:=H1.frozen _
 clear hu H1
 go_wp2_with fail
 refine(radar_upd g o t cs s1 2 seq time a b c _ HU.out HK.out ha hb).mono ?_
 rintro e w2 ⟨rfl,hu'⟩
 go_wp2
 go_ret3
 exact⟨rfl,hu'⟩
theorem take_f(g o:Nat)(t:TypeId)(cs:Array Value)(s:Ln)(kind seq time a b c:Int)(w:World)(H:Hold w g t cs o s.enc)(hok:s.ok)(ha : -2147483648≤a)(hb:a<2147483648)
  (c3:s.late seq time=false) (c1:1≤kind) (c2:kind≤5) (c4:kind≠2) (c5:kind≠3) :
  Calls Tryz.prog 34 #[.pointer (some ⟨g,o,none⟩),frm kind seq time a b c] w (TookR w g t cs o ((s.order seq time).note 6,6,0,false)):=by
 have hg:=H.lt
 have HH:=Lib.hid H
 have HL:=Lib.hid c3
 clear c3
 have d1:(kind==3)=false:=by simpa using c5
 have d2:(kind==2)=false:=by simpa using c4
 have HO:=Lib.hid hok
 clear H hok
 unfold frm
 go_enter Tryz.func34,Tryz.ntmps34
 go_wp2_with fail
 refine(order_any g o t cs s kind seq time a b c _ (HH.out.alloc _)).mono ?_
 rintro e w1 ⟨rfl,hu⟩
 rw[HL.out]
 have b0:w1.cell? ⟨w.heap.size,0,none⟩=some (.int .i64 kind):=box_kept hu hg 0 _ rfl
 have b1:w1.cell? ⟨w.heap.size,1,none⟩=some (.int .u16 seq):=box_kept hu hg 1 _ rfl
 have b2:w1.cell? ⟨w.heap.size,2,none⟩=some (.int .u32 time):=box_kept hu hg 2 _ rfl
 have b3:w1.cell? ⟨w.heap.size,3,none⟩=some (.int .i32 a):=box_kept hu hg 3 _ rfl
 have b4:w1.cell? ⟨w.heap.size,4,none⟩=some (.int .i32 b):=box_kept hu hg 4 _ rfl
 have b5:w1.cell? ⟨w.heap.size,5,none⟩=some (.int .i32 c):=box_kept hu hg 5 _ rfl
 have HU:=Lib.hid (upd_from hu)
 have HK:=Lib.hid (order_ok s seq time HO.out)
 generalize s.order seq time=s1 at *
 have H1:=hu.1
 have h7:w1.cell? ⟨g,o+7,none⟩=some (.int .i64 s1.high):=H1.cell_is rfl
 have h8:w1.cell? ⟨g,o+8,none⟩=some (.int .u32 s1.since):=H1.cell_is rfl
 have h9:w1.cell? ⟨g,o+9,none⟩=some (.bool s1.has):=H1.cell_is rfl
 have f7:w1.frozen? ⟨g,o+7,none⟩=false:=H1.frozen _
 have f8:w1.frozen? ⟨g,o+8,none⟩=false:=H1.frozen _
 have f9:w1.frozen? ⟨g,o+9,none⟩=false:=H1.frozen _
 clear hu H1
 go_wp2_with fail
 refine(note_upd g o t cs s1 6 _ HU.out (by decide) (by decide)).mono ?_
 rintro e w' ⟨rfl,hu'⟩
 go_wp2
 go_ret3
 exact⟨rfl,hu'⟩
theorem take_any(g o:Nat)(t:TypeId)(cs:Array Value)(s:Ln)(kind seq time a b c:Int)(w:World)(H:Hold w g t cs o s.enc)(hok:s.ok)(ha : -2147483648≤a)(hb:a<2147483648):
  Calls Tryz.prog 34 #[.pointer (some ⟨g,o,none⟩),frm kind seq time a b c] w (TookR w g t cs o (s.take kind seq time a)):=by
 unfold Ln.take
 by_cases c1:kind<1
 ·rw[if_pos (.inl c1)];exact take_a g o t cs s kind seq time a b c w H hok ha hb c1
 by_cases c2:5<kind
 ·rw[if_pos (.inr c2)];exact take_b g o t cs s kind seq time a b c w H hok ha hb c2
 rw[if_neg (by omega)]
 rcases Bool.eq_false_or_eq_true (s.late seq time) with c3|c3
 ·rw[if_pos c3];exact take_c g o t cs s kind seq time a b c w H hok ha hb (by omega) (by omega) c3
 rw[if_neg (by simp[c3])]
 by_cases c4:kind=3
 ·rw[if_pos c4];exact take_d g o t cs s kind seq time a b c w H hok ha hb c3 c4
 rw[if_neg c4]
 by_cases c5:kind=2
 ·rw[if_pos c5];exact take_e g o t cs s kind seq time a b c w H hok ha hb c3 c5
 rw[if_neg c5]
 exact take_f g o t cs s kind seq time a b c w H hok ha hb c3 (by omega) (by omega) c5 c4
def rul(age jump throw most:Int):Value:=.agg #[.int .u32 age,.int .i64 jump,.int .i64 throw,.int .i64 most]
def rulesOk(age jump throw most:Int):Bool:=decide (age≤60000∧1≤jump∧jump≤1048576∧0≤throw∧throw≤100∧1≤most∧most≤1048576)
def rulesCode(age jump throw most:Int):Int:=if rulesOk age jump throw most then 0 else 2
theorem check_any(age jump throw most:Int)(w:World):
  Calls Tryz.prog 25 #[rul age jump throw most] w fun e w'=>e=.returned (.int .i64 (rulesCode age jump throw most))∧Below w.heap.size w w':=by
 unfold rul
 go_enter Tryz.func25,Tryz.ntmps25
 go_wp2
 all_goals
  go_ret
  refine⟨?_,(Below.refl _ _).alloc (Nat.le_refl _) _⟩
  first
   | (have hr : rulesOk age jump throw most = true := by unfold rulesOk; apply decide_eq_true; omega
      simp [rulesCode, hr])
   | (have hr : rulesOk age jump throw most = false := by unfold rulesOk; apply decide_eq_false; omega
      simp [rulesCode, hr])
def Ln.new(age jump throw most:Int):Ln:=⟨age,jump,throw,most,false,0,0,0,0,false,0,false,0,0,0,0,0,0,0,0⟩
def Ln.val(s:Ln):Value:=.agg s.enc.toArray
theorem Ln.one(s:Ln):s.enc.toArray.all (·.oneCell')=true:=by simp[Ln.enc,Value.oneCell']
theorem Ln.info(s:Ln):(Tryz.prog.info? 97).map (·.size)=some s.enc.toArray.size:=by
 have h:(Tryz.prog.info? 97).map (·.size)=some 20:=by kernel_rfl
 exact h
theorem new_yes(age jump throw most:Int)(w:World)(hr:rulesOk age jump throw most=true):
  Calls Tryz.prog 44 #[rul age jump throw most] w fun e w'=>e=.returned (.tuple #[(Ln.new age jump throw most).val,.int .i64 0])∧Below w.heap.size w w':=by
 have hc:rulesCode age jump throw most=0:=by simp[rulesCode,hr]
 have HC:=Lib.hid hc
 clear hr hc
 unfold rul
 go_enter Tryz.func44,Tryz.ntmps44
 go_wp2_with fail
 refine(check_any age jump throw most _).mono ?_
 rintro e w1 ⟨rfl,hb⟩
 rw[HC.out]
 have ho:w1.heap[w.heap.size+1]? = some (.cells (Ln.new 0 0 0 0).enc.toArray 97 (0,0)) :=
  (hb.block _ (by simp)).trans (heap_alloc_at _ (by simp))
 have hbx:w1.cell? ⟨w.heap.size,0,none⟩=some (.int .u32 age):=(hb.cell (p:=⟨w.heap.size,0,none⟩) (by simp only[World.size_alloc];omega)).trans (by simp)
 have hby:w1.cell? ⟨w.heap.size,1,none⟩=some (.int .i64 jump):=(hb.cell (p:=⟨w.heap.size,1,none⟩) (by simp only[World.size_alloc];omega)).trans (by simp)
 have hbz:w1.cell? ⟨w.heap.size,2,none⟩=some (.int .i64 throw):=(hb.cell (p:=⟨w.heap.size,2,none⟩) (by simp only[World.size_alloc];omega)).trans (by simp)
 have hbt:w1.cell? ⟨w.heap.size,3,none⟩=some (.int .i64 most):=(hb.cell (p:=⟨w.heap.size,3,none⟩) (by simp only[World.size_alloc];omega)).trans (by simp)
 have HB:=Lib.hid hb
 have HO:=Lib.hid ho
 clear hb ho
 go_wp2_with (refine wpList_store_row rfl 97 _ _ rfl (w.heap.size+1) (Ln.new age jump throw most).enc.toArray rfl rfl 97 _ HO.out (Ln.info _) rfl (Ln.one _) ?_)
 have hg:=setRow_heap HO.out (Ln.new age jump throw most).enc.toArray
 refine bodyPost_ret (results_row_tmp rfl _ _ (w.heap.size+1) 97 _ (0,0) _ rfl hg Tryz.underlying97 rfl (by kernel_rfl)) rfl ?_
 refine⟨rfl,?_⟩
 exact below_setRow ((((Below.refl w.heap.size w).alloc (Nat.le_refl _) _).alloc (by simp) _).trans (HB.out.mono (by simp;omega))) (by omega) _
theorem does_calls{P:Program}{f:FuncId}{args:List Value}{S:List HE}{w:World}{Rl:Value→List HE→Prop}(h:Calls P f args.toArray w (Post S w Rl)):Does P f args S w Rl:=fun _=>callsIn_wide.2 h
theorem does_below{P:Program}{f:FuncId}{args:List Value}{w:World}{v0:Value}(h:Calls P f args.toArray w (fun e w'=>e=.returned v0∧Below w.heap.size w w')):Does P f args [] w (fun v S'=>v=v0∧S'=[]) :=
 does_calls (h.mono fun e w' ⟨he,hb⟩=>⟨v0,[],he,⟨rfl,rfl⟩,⟨hb.os,hb.tape,hb.output,hb.size,fun b hlt _=>hb.block b hlt,⟨by simp,.nil⟩,by simp⟩⟩)
abbrev lnE:Ln→List Value:=fun s=>[.int .u32 s.age,.int .i64 s.jump,.int .i64 s.throw,.int .i64 s.most,.bool s.any,.int .u16 s.seq,.int .u32 s.time,.int .i64 s.high,.int .u32 s.since,.bool s.has,.int .i64 s.last,.bool s.based,.int .i64 s.threw,.int .i64 s.c0,.int .i64 s.c1,.int .i64 s.c2,.int .i64 s.c3,.int .i64 s.c4,.int .i64 s.c5,.int .i64 s.c6]
end Go.Proofs.YthajpemlpmlefaaGreat
