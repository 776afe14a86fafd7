import Derived.Carry
import Derived.Test.YtbhchphfmhmabaaGreatP12
import Derived.Test.YtbhchphfmhmabaaGreatP15
import Derived.Test.YtbhchphfmhmabaaGreatP16
set_option maxHeartbeats 512000000
set_option maxRecDepth 4000
set_option linter.unusedVariables false
set_option linter.unusedSimpArgs false
namespace Go.Proofs.YtbhchphfmhmabaaGreat
open Go.RowKit _root_.Go.Proofs.Tryz
theorem zR{P:Program}{b:Frame}{a:Act}{k:List Item}{cs:List Frame}{w:World}{c:Code}:
  step P (lone (b.atR a (.code (.scope c)::k)) cs w)=.next (lone (b.atR a (.code c::.inScope c::k)) cs w) :=
 step_lone_go (by simp[stepG,stepG.exec,Frame.atR])
theorem bB4{P:Program}{b:Frame}{a:Act}{k:List Item}{cs:List Frame}{w:World}{c:Code}:
  step P (lone (b.atR a (.inScope c::k)) cs w)=.next (lone (b.atR a k) cs w) :=
 step_lone_go (by simp[stepG,stepG.exec,Frame.atR])
def sq(Q:Exit→Act→World→Prop):Exit→Act→World→Prop
 | .goto _=>fun _ _=>False
 | e=>Q e
theorem bCq{F:Fence}{n:Nat}{P:Program}{Q:Exit→Act→World→Prop}{a:Act}{w:World}{c:Code}(h:c.wpIn F n P (sq Q) a w):(Code.scope c).wpIn F n P Q a w:=by
 intro b k cs hro hb hr;have h0:(lone (b.atR a (.code (.scope c)::k)) cs w).fenced P F:=fenced_calm hb hr rfl;obtain⟨e,a₁,w₁,hq,harr⟩:=h b (.inScope c::k) cs hro hb hr;cases e with
 | normal=>exact⟨.normal,a₁,w₁,hq,.head h0 zR (StepsIn.trans harr (.one (fenced_calm hb hr rfl) bB4))⟩
 | exit id =>
  have hx:exitTo id (.inScope c::k)=exitTo id k:=by simp[exitTo]
  exact⟨_,a₁,w₁,hq,fun k' hk=>.head h0 zR (harr.1 k' (by rw[hx];exact hk)),
   fun hr' hk=>let ⟨k₁,h1,h2⟩:=harr.2 hr' (by rw[hx];exact hk);⟨k₁,h1,.head h0 zR h2⟩⟩
 | goto l=>exact hq.elim
 | ret=>exact⟨_,a₁,w₁,hq,.of_steps (.one h0 zR) harr⟩
 | panic ch=>exact⟨_,a₁,w₁,hq,.of_steps (.one h0 zR) harr⟩
 | outgrown=>exact⟨_,a₁,w₁,hq,.of_steps (.one h0 zR) harr⟩
section
variable {F:Fence} {n:Nat} {P:Program} {N:Nat} {ds:List Deferred} {w0:World} {W:Nat→Prop} {σ:List (Nat×Value)} {H:List HE} {Q:Exit→Act→World→Prop}
theorem aRb{c:Code}(h:J N ds w0 W σ H (c.wpIn F n P (sq Q))):J N ds w0 W σ H ((Code.scope c).wpIn F n P Q):=fun a w ha hw=>bCq (h a w ha hw)
theorem aR5{l:Nat}(h:J N ds w0 W σ H (Q .normal)):J N ds w0 W σ H ((Code.label l).wpIn F n P Q):=fun a w ha hw=>wpIn_label (h a w ha hw)
end
instance {F:Fence}{n:Nat}{P:Program}{Q:Exit→Act→World→Prop}(c:Code):CC ((Code.scope c).wpIn F n P Q) (c.wpIn F n P (sq Q)):=⟨aRb⟩
instance {F:Fence}{n:Nat}{P:Program}{Q:Exit→Act→World→Prop}(l:Nat):CC ((Code.label l).wpIn F n P Q) (Q .normal):=⟨aR5⟩
instance {Q:Exit→Act→World→Prop}:CC (sq Q .normal) (Q .normal):=⟨fun h=>h⟩
instance {Q:Exit→Act→World→Prop}:CC (sq Q .ret) (Q .ret):=⟨fun h=>h⟩
theorem aUx{P:Program}{N:Nat}{w0:World}{W:Nat→Prop}{σ:List (Nat×Value)}{H:List HE}{fn:Func}{t:Tmp}{b ty sz bs:Nat}{z:Value}{dd:TypeDesc}{cs:List Value}{k:HE→List HE}{S':List HE}{Rl:Value→List HE→Prop}[aN P ty dd][hd:gP dd][bF P ty sz bs z][hb:At b H ty cs k]
  (hres:fn.results=#[.cell t ty]) (hv:aI σ t=some (.pointer (some ⟨b,0,none⟩))) (hl:cs.length=sz) (hs:aA S' H) (hR:Rl (.agg cs.toArray) S'):J N [] w0 W σ H (bodyPost P fn (fun e w'=>∃v S',e=.returned v∧Rl v S'∧St w0 W S' w') .ret) :=
 fun a w ha hw=>by obtain⟨R,h1,-⟩:=hb.h;have hg:HE.holds w (.blk b ty cs):=(hw.perm h1.perm).own.holds _ (List.mem_cons_self ..);refine⟨ha.defers,_,results_cell_row (d:=dd) hres _ _ b ty cs.toArray (0,0) (by rw[qV ha hv]) hg aN.h ?_ (by simpa [hl] using (bF.size (P:=P) (t:=ty))),_,S',rfl,hR,hw.sub hs⟩;have:=hd.h;cases dd<;>simp_all [oO]
def wG(z:List Int)(i:Nat):Int:=if i<z.length then z.getD i 0 else if 0<z.length then IntKind.i16.wrap ((z.getD (i%z.length) 0).tdiv 2)else ((i%7:Nat):Int)
def lQ(z:List Int)(m:Nat):List Int:=(List.range m).map (wG z)
theorem aK0(z:List Int)(m:Nat):(lQ z m).length=m:=by simp[lQ]
theorem aT8(z:List Int)(m:Nat):lQ z (m+1)=lQ z m++[wG z m]:=by simp[lQ,List.range_succ]
attribute [local irreducible] OJ J bM Code.wpIn wpListIn Oper.wpIn bodyPost CallsIn aF
theorem aT9(a b:Int)(ha:bG .u8 a)(hb:bG .u8 b)(W H:Nat)(hW:2+a%39=W)(hH:2+b%39=H)(A:Option Addr)(c:Nat)(z:List Int)(w:World)(hr:bP w (bB []) A z.length c 1 (aD .i16 z))(hm:z.length<1000000):
  aF prog 53 [.int .u8 a,.int .u8 b,.slice A z.length c] [] w (fun v S'=>∃A' c',v=.agg #[.int .i64 W,.int .i64 H,.slice A' (lQ z (W*H)).length c']∧S'=[.row (.slice A' (lQ z (W*H)).length c') 95 1 (lQ z (W*H)).length (aD .i16 (lQ z (W*H)))]):=by
 have ha1:0≤a∧a≤255:=ha;have hb1:0≤b∧b≤255:=hb;have hW2:2≤W∧W≤40:=oo;have hH2:2≤H∧H≤40:=oo;have hWH:W*H≤1600:=by have:=Nat.mul_le_mul hW2.2 hH2.2;omega
 have hcast:(W:Int)*H=((W*H:Nat):Int):=by push_cast;rfl
 have hmul:0≤(W:Int)*H∧(W:Int)*H≤1600:=by rw[hcast];omega
 refine aJ func53 rfl ntmps53 rfl ⟨aE,.nil⟩ (fun n=>?_);simp only[aG];refine dH (e:=95) (size:=1) ?_;refine bI;rw[hW,hH];rename_i b6 b7;refine cG (X:=Nat×Option Addr×Nat) (fun q=>q.1≤W*H) (fun q=>[(2,.slice A z.length c),(6,.pointer (some ⟨b6,0,none⟩)),(7,.pointer (some ⟨b7,0,none⟩)),(8,.int .i64 q.1)])
  (fun q=>[.blk b7 41 [.int .i64 W,.int .i64 H,.slice q.2.1 (lQ z q.1).length q.2.2],.blk b6 41 [.int .i64 0,.int .i64 0,.slice none 0 0],.row (.slice q.2.1 (lQ z q.1).length q.2.2) 95 1 (lQ z q.1).length (aD .i16 (lQ z q.1))]) (fun q=>W*H-q.1) (0,none,0) aE ⟨rfl,rfl,rfl,rfl,trivial⟩ (aA.refl _) ?_
 rintro⟨i,A1,c1⟩ hi;simp only at hi ⊢;have hfl:=aK0 z i;have hfs:=aT8 z i;refine bI;refine fB rfl (fun h=>?_) (fun h=>?_)
 ·have hlt:i<W*H:=by have:=of_decide_eq_true h;omega
  refine bI;refine fB rfl (fun h2=>?_) (fun h2=>?_)
  ·have h2':i<z.length:=by have:=of_decide_eq_true h2;omega
   have tN:wG z i=z.getD i 0:=if_pos h2';obtain⟨bA,oA,rfl,hA⟩:=hr.at_ (by omega:0<z.length);rw[tN]at hfs;refine bI;rename_i A2 c2;exact aR (i+1,A2,c2) (by show i+1≤_;omega) (by show _-(i+1)<_-i;omega) ⟨rfl,rfl,rfl,by simp[aI],trivial⟩ (by simp only[hfs];exact aA.au)
  ·have h2':¬i<z.length:=by have:=of_decide_eq_false h2;omega
   refine bI;refine fB rfl (fun h3=>?_) (fun h3=>?_)
   ·have h3':0<z.length:=by have:=of_decide_eq_true h3;omega
    have tN:wG z i=IntKind.i16.wrap ((z.getD (i%z.length) 0).tdiv 2):=by unfold wG;rw[if_neg h2',if_pos h3']
    have hmc:(i:Int)%(z.length:Int)=((i%z.length:Nat):Int):=by push_cast;rfl
    have hml:=Nat.mod_lt i h3';have hmt:((i:Int)%(z.length:Int)).toNat=i%z.length:=by rw[hmc,Int.toNat_natCast]
    have hmi:0≤(i:Int)%(z.length:Int)∧(i:Int)%(z.length:Int)<z.length:=by rw[hmc];omega
    rw[tN,← hmt]at hfs;obtain⟨bA,oA,rfl,hA⟩:=hr.at_ h3';refine bI;rename_i A2 c2;exact aR (i+1,A2,c2) (by show i+1≤_;omega) (by show _-(i+1)<_-i;omega) ⟨rfl,rfl,rfl,by simp[aI],trivial⟩ (by simp only[hfs];exact aA.au)
   ·have h3':¬0<z.length:=by have:=of_decide_eq_false h3;omega
    have tN:wG z i=(i:Int)%7:=by unfold wG;rw[if_neg h2',if_neg h3'];push_cast;rfl
    rw[tN]at hfs;refine bI;rename_i A2 c2;exact aR (i+1,A2,c2) (by show i+1≤_;omega) (by show _-(i+1)<_-i;omega) ⟨rfl,rfl,rfl,by simp[aI],trivial⟩ (by simp only[hfs];exact aA.au)
 ·obtain rfl:i=W*H:=by have:=of_decide_eq_false h;omega
  refine bI;exact aUx rfl rfl rfl aA.au ⟨_,_,rfl,rfl⟩
end Go.Proofs.YtbhchphfmhmabaaGreat
namespace Go.Proofs.YtbhchphfmhmabaaGreat
open Go.RowKit
theorem aDp{F:Fence}{n:Nat}{P:Program}{N:Nat}{ds:List Deferred}{w0:World}{W:Nat→Prop}{σ:List (Nat×Value)}{H HL:List HE}{Q:Exit→Act→World→Prop}{ops:Array Oper}{m:Nat}{rest:List Nat}{mask:List Bool}(b0:Bool){i j t:Nat}{o:Oper}{b:Bool}{r:List Nat}(hk:rest=i::r)(hio:ops.toList[i]? = some o)(hg:o.guard=some (j,b))(ht:(ops[j]?).bind (·.dst)=some t)(hv:aI σ t=some (.bool b0))(h:J N ds w0 W σ H (cC F n P w0 W HL ops mask Q m rest)):J N ds w0 W σ H (cC F n P w0 W HL ops mask Q m rest):=h
def aHl(ops:Array Oper)(k:Nat)(xs:List Nat):Bool:=Nat.ble k ops.size&&(List.range ops.size).all fun i=>Nat.blt i k||(((List.range k).all fun j=>xs.contains j||cN ops i j)&&(Nat.beq i k||cN ops i (i-1)))
theorem aLa{ops:Array Oper}(i:Nat):eN ops (List.replicate ops.size false) i=true:=by
 unfold eN;refine List.all_eq_true.2 fun j hj=>?_;have:bY (List.replicate ops.size false) j=false:=by unfold bY;rw[List.getD_eq_getElem?_getD,List.getElem?_replicate];split<;>rfl
 rw[this];rfl
section
variable {F:Fence} {n:Nat} {P:Program} {N:Nat} {ds:List Deferred} {w0:World} {W:Nat→Prop} {σ:List (Nat×Value)} {H HL:List HE} {Q:Exit→Act→World→Prop} {ops:Array Oper}
def aDr(F:Fence)(n:Nat)(P:Program)(ops:Array Oper)(Q:Exit→Act→World→Prop)(l:List Oper):Exit→Act→World→Prop:=fun _=>wpListIn F n P ops (nq fun _=>Q .normal) l
theorem aO9(hb:∀i,eN ops (List.replicate ops.size false) i=true):
  ∀(t:Nat) (k:Nat),k+t=ops.size→(∀i,k<i→i<ops.size→cN ops i (i-1)=true)→∀(b:Act) (w:World),wpListIn F n P ops (nq fun _=>Q .normal) (ops.toList.drop k) b w→cC F n P w0 W HL ops (List.replicate ops.size false) Q t (List.range' k t) b w:=by
 intro t
 induction t with
 | zero =>
  intro k hk _ b w h;rw[List.drop_eq_nil_of_le (by rw[Array.length_toList];omega)]at h;exact h
 | succ t ih =>
  intro k hk he b w h;refine⟨fun e=>by simp at e,fun i hi hr=>?_⟩;have hik:i=k:=by
   rcases Nat.lt_or_ge k i with h1|h1
   ·have h2:i<ops.size:=by have:=List.mem_range'_1.1 hi;omega
    have h3:=he i h1 h2;rw[hr (i-1) (List.mem_range'_1.2 ⟨oo,oo⟩)]at h3;cases h3
   ·have:=List.mem_range'_1.1 hi;omega
  subst hik;have hlt:i<ops.size:=oo;have e1:ops.toList.drop i=ops[i]::ops.toList.drop (i+1):=by rw[List.drop_eq_getElem_cons (by rw[Array.length_toList];exact hlt)];rfl
  have e2:(List.range' i (t+1)).erase i=List.range' (i+1) t:=by rw[List.range'_succ];simp
  have hopsAt:cQ ops [i]=[ops[i]]:=by simp[cQ,hlt]
  rw[hopsAt,e2];rw[e1]at h;have hnext:∀(c:Act) (w':World),wpListIn F n P ops (nq fun _=>Q .normal) (ops.toList.drop (i+1)) c w'→wpListIn F n P ops (nq fun _ b'' w''=>(eN ops (List.replicate ops.size false) i=true∨St w0 W HL w'')∧cC F n P w0 W HL ops (List.replicate ops.size false) Q t (List.range' (i+1) t) b'' w'') [] c w' :=
   fun c w' hh=>⟨.inl (hb i),ih (i+1) oo (fun j h1 h2=>he j oo h2) c w' hh⟩
  simp only[wpListIn]at h ⊢;by_cases hw:Region.wanted ops[i] (yielded ops b.tmps)=true
  ·rw[if_pos hw]at h ⊢;exact⟨h.1,wX h.2 (fun u w' hh=>hnext _ w' hh) (fun x w' hh=>hnext _ w' hh)⟩
  ·rw[if_neg hw]at h ⊢;exact⟨h.1,hnext _ w h.2⟩
def exB(ops:Array Oper)(xs:List Nat):Bool:=xs.all fun i=>match ops[i]? with
 | some o=>(match o.op,o.guard,o.dst with | .extract _ _,none,some _=>true|_,_,_=>false)&&xs.all fun j=>!cN ops i j
 | none=>false
theorem aT7{x:Operand}{c:Nat}{o:Oper}(ho:o.op=.extract x c)(ρ:Operand→Value):(∃vs:Array Value,∃v,ρ x=.tuple vs∧vs[c]? = some v)∨∀(w:World) (a:Act) (K:Act→World→Prop) (Q:Exit→Act→World→Prop),¬o.uponIn F n P a K Q ((execOp ρ o).run P w):=by
 cases hx:ρ x with
 | tuple vs =>
  cases hv:vs[c]? with
  | some v=>exact .inl ⟨vs,v,rfl,hv⟩
  | none=>exact .inr fun w a K Q h=>by simp[execOp,ho,hx,Instr.extract,hv]at h;exact h
 | _=>exact .inr fun w a K Q h=>by simp[execOp,ho,hx,Instr.extract]at h;exact h
theorem aUf[hF:aU F]{k:Nat}(xs:List Nat)(hk:k≤ops.size)(hV:mA ops)(hbk:∀i j,cN ops i j=true→j<i)(hb:∀i,eN ops (List.replicate ops.size false) i=true)(hex:exB ops xs=true)(hw1:∀i j,k≤i→i<ops.size→j<k→j ∉ xs→cN ops i j=true)(hch:∀i,k<i→i<ops.size→cN ops i (i-1)=true){mask:List Bool}:
  ∀(m:Nat) (rest:List Nat) (b:Act) (w:World),rest.length≤m→rest.Nodup→(∀i∈rest,i<k)→cC F n P w0 W HL ops mask (aDr F n P ops Q (ops.toList.drop k)) m rest b w→cC F n P w0 W HL ops (List.replicate ops.size false) Q (rest.length+(ops.size-k)) (rest++List.range' k (ops.size-k)) b w:=by
 intro m
 induction m with
 | zero =>
  intro rest b w hl hnd hr h;obtain rfl:rest=[]:=List.length_eq_zero_iff.1 oo;rw[List.length_nil,Nat.zero_add,List.nil_append];exact aO9 hb _ k oo hch b w h
 | succ m ih =>
  intro rest b w hl hnd hr h;cases hrest:rest with
  | nil =>
   subst hrest;rw[List.length_nil,Nat.zero_add,List.nil_append];exact aO9 hb _ k oo hch b w (aHx h)
  | cons x r =>
   rw[← hrest];have hne:rest≠[]:=by rw[hrest];simp
   have hx:x∈rest:=by rw[hrest];exact List.mem_cons_self ..
   have hlen:∀i∈rest,(rest.erase i).length+1=rest.length:=fun i hi=>by have:=List.length_erase_of_mem hi;have:=List.length_pos_of_mem hi;omega
   have hll:∀i∈rest,(rest.erase i).length≤m:=fun i hi=>by have:=hlen i hi;omega
   have hrr:∀i,∀j∈rest.erase i,j<k:=fun i j hj=>hr j (List.mem_of_mem_erase hj);by_cases hall:∀j∈rest,j∈xs
   ·
    have hxx:=List.all_eq_true.1 hex x (hall x hx);cases hio:ops[x]? with
    | none=>rw[hio]at hxx;cases hxx
    | some o =>
     rw[hio]at hxx;simp only[Bool.and_eq_true]at hxx;obtain⟨hsh,hne2⟩:=hxx;have hready:∀j∈rest,cN ops x j=false:=fun j hj=>by have:=List.all_eq_true.1 hne2 j (hall j hj);simpa using this
     have hwp:=h.2 x hx hready;have hopsAt:cQ ops [x]=[o]:=by simp[cQ,hio]
     rw[hopsAt]at hwp;cases hop:o.op with
     | extract y c =>
      cases hg:o.guard with
      | some g=>rw[hop,hg]at hsh;cases hsh
      | none =>
       cases hd:o.dst with
       | none=>rw[hop,hg,hd]at hsh;cases hsh
       | some d =>
        have hwt:∀a:Act,Region.wanted o (yielded ops a.tmps)=true:=fun a=>by unfold Region.wanted;rw[hg]
        have hndf:∀c,o.op≠.defer c:=fun c e=>by rw[hop]at e;cases e
        simp only[wpListIn]at hwp;rw[if_pos (hwt b)]at hwp;have h2:=hwp.2;rw[Oper.semAt_plain F _ _ hndf]at h2;rcases aT7 (F:=F) (n:=n) (P:=P) hop b.eval with⟨vs,v,hy,hv⟩|hbad
        ·have hrun:∀a:Act,a.eval y=.tuple vs→∀w,(execOp a.eval o).run P w=.ok (.value v) w:=fun a ha w=>by simp[execOp,hop,ha,Instr.extract,hv]
         rw[hrun b hy w,Oper.uponIn_value,hd]at h2;have h3:=ih _ _ _ (hll x hx) (hnd.erase x) (hrr x) h2.2;have hlx:=hlen x hx;rw[show rest.length+(ops.size-k)=((rest.erase x).length+(ops.size-k))+1 by omega];have pR:=hV.at_ hio;refine aMk (v:=v) (L:=fun t=>b.tmps[t]?) hio hd (fun j o' hj=>(hV.at_ hj).1) (fun j o' hj hjo=>(pR.2.2 d hd).2 j o' hj hjo) (fun a ha=>⟨hwt a,hrun a ?_⟩) _ _ b w (List.mem_append_left _ hx) (by rw[List.length_append,List.length_range'];omega) (fun _ _ _=>hb x) (fun j hj t ht hm=>?_) (.inl (hb x)) (fun t _ u hu=>hu) ?_
         ·cases y with
          | tmp t =>
           have hl:t∈o.looksAt ops:=List.mem_append_left _ (List.mem_filterMap.2 ⟨.tmp t,by rw[hop];simp[Op.operands],rfl⟩);cases hb':b.tmps[t]? with
           | none =>
            have hy':b.tmps.getD t undef=.tuple vs:=hy;rw[Array.getD_eq_getD_getElem?,hb']at hy';have:vs=#[]:=by injection hy' with e;exact e.symm
            subst this;simp at hv
           | some u =>
            have hy':b.tmps.getD t undef=.tuple vs:=hy;rw[Array.getD_eq_getD_getElem?,hb']at hy';show a.tmps.getD t undef=.tuple vs;rw[Array.getD_eq_getD_getElem?,ha t hl u hb'];exact hy'
          | const u=>exact hy
          | global g=>exact hy
          | func f=>exact hy
         ·have hj2:∃o',ops[j]? = some o'∧o'.dst=some t:=by
           unfold cW at ht;cases hjo:ops[j]? with
           | none=>rw[hjo]at ht;cases ht
           | some o'=>rw[hjo]at ht;exact⟨o',rfl,ht⟩
          obtain⟨o',hjo,hjd⟩:=hj2;by_cases hjx:j=x
          ·subst hjx;rw[hio]at hjo;injection hjo with e;subst e;exact(pR.2.2 t hjd).1 hm
          ·have h5:=(((hV.at_ hjo).2.2 t hjd).2 x o (fun e=>hjx e.symm) hio).2 hm;rcases List.mem_append.1 hj with h6|h6
           ·rw[hready j h6]at h5;cases h5
           ·have h7:=hbk x j h5;have h8:=List.mem_range'_1.1 h6;have:=hr x hx;omega
         ·rw[List.erase_append_left _ hx];exact h3
        ·exact absurd h2 (hbad w b _ _)
     | _=>rw[hop]at hsh;cases hsh
   ·rw[Classical.not_forall]at hall;obtain⟨z,hz⟩:=hall;rw[Classical.not_imp]at hz;have hx1:=hlen x hx;rw[show rest.length+(ops.size-k)=((rest.erase x).length+(ops.size-k))+1 by omega];refine⟨fun e=>absurd (List.append_eq_nil_iff.1 e).1 hne,fun i hi hrd=>?_⟩;have hir:i∈rest:=by
     rcases List.mem_append.1 hi with h1|h1
     ·exact h1
     ·have h2:=List.mem_range'_1.1 h1;have h3:=hw1 i z oo oo (hr z hz.1) hz.2;rw[hrd z (List.mem_append_left _ hz.1)]at h3;cases h3
    have hwp:=h.2 i hir (fun j hj=>hrd j (List.mem_append_left _ hj));have e1:=hlen i hir;rw[List.erase_append_left _ hir,show (rest.erase x).length=(rest.erase i).length by omega];cases hio:ops[i]? with
    | none =>
     have hopsAt:cQ ops [i]=[]:=by simp[cQ,hio]
     rw[hopsAt]at hwp ⊢;exact⟨.inl (hb i),ih _ _ _ (hll i hir) (hnd.erase i) (hrr i) hwp.2⟩
    | some o' =>
     have hopsAt:cQ ops [i]=[o']:=by simp[cQ,hio]
     rw[hopsAt]at hwp ⊢;simp only[wpListIn]at hwp ⊢;by_cases hw:Region.wanted o' (yielded ops b.tmps)=true
     ·rw[if_pos hw]at hwp ⊢;exact⟨hwp.1,wX hwp.2 (fun u w' hh=>⟨.inl (hb i),ih _ _ _ (hll i hir) (hnd.erase i) (hrr i) hh.2⟩) (fun x w' hh=>⟨.inl (hb i),ih _ _ _ (hll i hir) (hnd.erase i) (hrr i) hh.2⟩)⟩
     ·rw[if_neg hw]at hwp ⊢;exact⟨hwp.1,.inl (hb i),ih _ _ _ (hll i hir) (hnd.erase i) (hrr i) hwp.2.2⟩
theorem aR0{id:Nat}{l:List Oper}(HL:List HE)(xs:List Nat)(k:Nat)(r:List Nat)[hF:aU F](hs:aA HL H)(hr:(List.range k==r)=true)(hmx:P.follows .mixedOrders=true)(hok:sL l.toArray (List.replicate l.toArray.size false)=true)(hp:(fH l.toArray (List.replicate l.toArray.size false)).isEmpty=true)(hv:(oF l.toArray (List.replicate l.toArray.size false)==List.range l.toArray.size)=true)(hk:(Nat.ble l.toArray.size 300&&wR l.toArray)=true)(ht:(aHl l.toArray k xs&&exB l.toArray xs)=true)
  (h:mA l.toArray→J N ds w0 W σ H (cC F n P w0 W HL l.toArray (List.replicate 300 true) (aDr F n P l.toArray Q (l.drop k)) r.length r)):J N ds w0 W σ H ((Code.region id l.toArray true).wpIn F n P Q) :=
 dM HL _ (List.range l.toArray.size) hs (by simpa using hv) hmx hok (by
  simp only[Bool.and_eq_true]at hk;have hV:mA l.toArray:=⟨hk.2,Nat.le_of_ble_eq_true hk.1⟩;rw[List.isEmpty_iff.1 hp];refine fC ?_;have e:List.range k=r:=by simpa using hr
  subst e;unfold aHl at ht;simp only[Bool.and_eq_true]at ht;obtain⟨⟨hkl,ht⟩,hex⟩:=ht;have hkl:k≤l.toArray.size:=Nat.le_of_ble_eq_true hkl;have hbk:∀i j,cN l.toArray i j=true→j<i:=by
   intro i j he;unfold sL at hok;simp only[Bool.and_eq_true]at hok;have hi:i<l.toArray.size:=by
    rcases Nat.lt_or_ge i l.toArray.size with h1|h1
    ·exact h1
    ·unfold cN at he;rw[Array.getElem?_eq_none h1]at he;cases he
   have h1:=List.all_eq_true.1 hok.1.2 i (List.mem_range.2 hi);unfold oP at h1;unfold cN at he;rw[Array.getElem?_eq_getElem hi]at h1 he;simp only[Array.any_eq_true]at he;obtain⟨q,hq,he⟩:=he;simp only[Bool.and_eq_true,beq_iff_eq]at he;have h2:=(Array.all_eq_true.1 h1) q hq;rw[he.1,← he.2]at *;simpa [he.1] using h2
  have hw1:∀i j,k≤i→i<l.toArray.size→j<k→j ∉ xs→cN l.toArray i j=true:=by
   intro i j h1 h2 h3 hx;have h4:=List.all_eq_true.1 ht i (List.mem_range.2 h2);have e:Nat.blt i k=false:=by
    cases hb:Nat.blt i k with
    | false=>rfl
    | true=>exact absurd (show i<k by simpa using hb) oo
   rw[e,Bool.false_or,Bool.and_eq_true]at h4;have h5:=List.all_eq_true.1 h4.1 j (List.mem_range.2 h3);have e2:xs.contains j=false:=by simpa using hx
   rw[e2,Bool.false_or]at h5;exact h5
  have hch:∀i,k<i→i<l.toArray.size→cN l.toArray i (i-1)=true:=by
   intro i h1 h2;have h4:=List.all_eq_true.1 ht i (List.mem_range.2 h2);have e:Nat.blt i k=false:=by
    cases hb:Nat.blt i k with
    | false=>rfl
    | true=>exact absurd (show i<k by simpa using hb) oo
   have e2:Nat.beq i k=false:=by
    cases hb:Nat.beq i k with
    | false=>rfl
    | true=>have:=Nat.eq_of_beq_eq_true hb;omega
   rw[e,Bool.false_or,Bool.and_eq_true,e2,Bool.false_or]at h4;exact h4.2
  intro a w ha hst;have h5:=aUf (F:=F) (n:=n) (P:=P) (w0:=w0) (W:=W) (HL:=HL) (Q:=Q) (ops:=l.toArray) xs hkl hV hbk (fun i=>aLa i) hex hw1 hch k (List.range k) a w aE List.nodup_range (fun i hi=>List.mem_range.1 hi) (by have h6:=h hV a w ha hst;rw[List.length_range]at h6;exact h6);rw[List.length_range,show k+(l.toArray.size-k)=l.toArray.size by omega]at h5;rw[List.length_range];have e3:List.range k++List.range' k (l.toArray.size-k)=List.range l.toArray.size:=by rw[List.range_eq_range',List.range_eq_range'];have:=List.range'_append_1 (s:=0) (m:=k) (n:=l.toArray.size-k);rw[Nat.zero_add,Nat.add_sub_cancel' hkl]at this;exact this
  rw[e3]at h5;exact h5)
theorem aBu{id:Nat}{l:List Oper}(xs:List Nat)(k:Nat)(r:List Nat)[hF:aU F](h:mA l.toArray→J N ds w0 W σ H (cC F n P w0 W H l.toArray (List.replicate 300 true) (aDr F n P l.toArray Q (l.drop k)) r.length r))(hr:(List.range k==r)=true:=by decide +kernel)(hmx:P.follows .mixedOrders=true:=by decide)(hok:sL l.toArray (List.replicate l.toArray.size false)=true:=by decide +kernel)(hp:(fH l.toArray (List.replicate l.toArray.size false)).isEmpty=true:=by decide +kernel)(hv:(oF l.toArray (List.replicate l.toArray.size false)==List.range l.toArray.size)=true:=by decide +kernel)(hk:(Nat.ble l.toArray.size 300&&wR l.toArray)=true:=by decide +kernel)(ht:(aHl l.toArray k xs&&exB l.toArray xs)=true:=by decide +kernel):
  J N ds w0 W σ H ((Code.region id l.toArray true).wpIn F n P Q):=aR0 H xs k r (aA.refl _) hr hmx hok hp hv hk ht h
theorem kG{id:Nat}{l:List Oper}(r:List Nat)[hF:aU F](h:mA l.toArray→J N ds w0 W σ H (cC F n P w0 W H l.toArray (List.replicate 300 true) Q r.length r))(hr:(oF l.toArray (List.replicate l.toArray.size false)==r)=true:=by decide +kernel)(hmx:P.follows .mixedOrders=true:=by decide)(hok:sL l.toArray (List.replicate l.toArray.size false)=true:=by decide +kernel)(hp:(fH l.toArray (List.replicate l.toArray.size false)).isEmpty=true:=by decide +kernel)(hk:(Nat.ble l.toArray.size 300&&wR l.toArray)=true:=by decide +kernel):J N ds w0 W σ H ((Code.region id l.toArray true).wpIn F n P Q):=aAc H r (aA.refl _) hr hmx hok hp hk h
theorem fJ{id:Nat}{l:List Oper}(HL:List HE)(r:List Nat)[hF:aU F](hs:aA HL H)(h:mA l.toArray→J N ds w0 W σ H (cC F n P w0 W HL l.toArray (List.replicate 300 true) Q r.length r))(hr:(oF l.toArray (List.replicate l.toArray.size false)==r)=true:=by decide +kernel)(hmx:P.follows .mixedOrders=true:=by decide)(hok:sL l.toArray (List.replicate l.toArray.size false)=true:=by decide +kernel)(hp:(fH l.toArray (List.replicate l.toArray.size false)).isEmpty=true:=by decide +kernel)(hk:(Nat.ble l.toArray.size 300&&wR l.toArray)=true:=by decide +kernel):J N ds w0 W σ H ((Code.region id l.toArray true).wpIn F n P Q):=aAc HL r hs hr hmx hok hp hk h
theorem zS{rest:List Nat}{mask:List Bool}{l:List Oper}(h:J N ds w0 W σ H (wpListIn F n P ops (nq fun _=>Q .normal) l)):J N ds w0 W σ H (cC F n P w0 W HL ops mask (aDr F n P ops Q l) 0 rest):=h
instance {k:Act→World→Prop}:CC (nq (fun _=>k) .normal) k:=⟨fun h=>h⟩
end
theorem cD{P:Program}{w0:World}{W:Nat→Prop}{H:List HE}{op:Op}{vs:List Value}{v v':Value}{c:Prop}(h:MS P w0 W H op vs v c)(hc:c)(e:v=v'):MS P w0 W H op vs v' True:=by subst e;exact⟨fun _=>h.h hc⟩
theorem mI{P:Program}{w0:World}{W:Nat→Prop}{H:List HE}{op:Op}{vs:List Value}{v v':Value}{c:Prop}(h:MW P w0 W H op vs v c)(hc:c)(e:v=v'):MS P w0 W H op vs v' True:=by subst e;exact⟨fun _=>h.h hc⟩
theorem aEm{F:Fence}{n:Nat}{P:Program}{N:Nat}{ds:List Deferred}{w0:World}{W:Nat→Prop}{σ:List (Nat×Value)}{H:List HE}{K:Act→World→Prop}{Q:Exit→Act→World→Prop}{x:Code}{id:Nat}{X:Type}(R:X→Prop)(σI:X→List (Nat×Value))(HI:X→List HE)
  (hx:J N ds w0 W σ H (x.wpIn F n P (Exit.inBlock id (Exit.then (fun a w=>∃z,R z∧True∧Tm N ds (σI z) a∧St w0 W (HI z) w) Q)))) (hy:∀z,R z→J N ds w0 W (σI z) (HI z) K):J N ds w0 W σ H (x.wpIn F n P (Exit.inBlock id (Exit.then K Q))) :=
 hx.mono fun a w h=>wpIn_mono h (by
  rintro e a w h;cases e with
  | normal=>obtain⟨z,h1,-,h2,h3⟩:=h;exact hy z h1 a w h2 h3
  | exit k =>
   by_cases hk:k=id
   ·subst hk;simp only[Exit.inBlock,if_pos]at h ⊢;obtain⟨z,h1,-,h2,h3⟩:=h;exact hy z h1 a w h2 h3
   ·simp only[Exit.inBlock,if_neg hk]at h ⊢;exact h
  | _=>exact h)
section
variable {P:Program} {w0:World} {W:Nat→Prop} {H:List HE}
end
open Go.ChangeAt Go.ChangeShapes Go.Deep Go.Joins Go.WideShapes
section
variable {H:Type} {enc:TypeId×Value→H} {P:Program} {w:World} {base:Nat} {spare:Nat→Bool} {held:Bool}
def aPd:List IntKind→List Value→Prop
 | [],cs=>cs=[]
 | k::ks,cs=>∃n r,cs=.int k n::r∧bG k n∧aPd ks r
end
def lM.ok(f:lM):Prop:=bG .i64 f.kind∧bG .u16 f.seq∧bG .u32 f.time∧bG .i32 f.a∧bG .i32 f.b∧bG .i32 f.c
end Go.Proofs.YtbhchphfmhmabaaGreat
namespace Go.Proofs.YtbhchphfmhmabaaGreat
open Go.RowKit _root_.Go.Proofs.Tryz
def Ln.ok(s:Ln):Prop:=-2147483648≤s.high∧s.high<2147483648∧-4294967296≤s.last∧s.last≤4294967296∧1≤s.jump∧0≤s.threw∧s.threw≤1000
def Ln.radar(s:Ln)(time a:Int):Ln×Int×Int×Bool :=
 if a<0∨s.most<a then (s.note 2,2,0,false)
 else if s.has=false∨s.age<(time-s.since)%4294967296 then (s.note 3,3,0,false)
 else if s.based=true∧(s.jump<s.high-a-s.last∨s.high-a-s.last < -s.jump)then
  if s.threw<s.throw then (({ s with threw:=s.threw+1 }:Ln).note 4,4,0,false)
  else (({ s with last:=s.high-a,based:=true,threw:=0 }:Ln).note 5,5,s.high-a,true)
 else (({ s with last:=s.high-a,based:=true,threw:=0 }:Ln).note 0,0,s.high-a,true)
def tC(w:World)(g:Nat)(t:TypeId)(cs:Array Value)(o:Nat)(r:Ln×Int×Int×Bool)(e:Ending)(w':World):Prop :=
 e=.returned (.tuple #[.int .i64 r.2.1,.int .i64 r.2.2.1,.bool r.2.2.2])∧cL w g t cs o r.1.enc w'
theorem aZi(g o:Nat)(t:TypeId)(cs:Array Value)(s:Ln)(kind seq time a b c:Int)(w:World)(H:dA w g t cs o s.enc)(hok:s.ok)(ha : -2147483648≤a)(hb:a<2147483648):
  Calls prog 108 #[.pointer (some ⟨g,o,none⟩),dQ kind seq time a b c] w (tC w g t cs o (s.radar time a)):=by
 obtain⟨i1,i2,i3,i4,i5,i6,i7⟩:=hok;unfold tC Ln.radar;by_cases c1:a<0
 ·rw[if_pos (.inl c1)];exact aZh g o t cs s kind seq time a b c w H ha hb c1
 by_cases c2:s.most<a
 ·rw[if_pos (.inr c2)];exact aZj g o t cs s kind seq time a b c w H ha hb oo c2
 rw[if_neg oo];rcases(Bool.eq_false_or_eq_true s.has).symm with c3|c3
 ·rw[if_pos (.inl c3)];exact aZk g o t cs s kind seq time a b c w H ha hb oo oo c3
 by_cases c4:s.age<(time-s.since)%4294967296
 ·rw[if_pos (.inr c4)];exact aZl g o t cs s kind seq time a b c w H ha hb oo oo c3 c4
 rw[if_neg (by simp[c3];omega)];rcases(Bool.eq_false_or_eq_true s.based).symm with c5|c5
 ·rw[if_neg (by simp[c5])];exact aZm g o t cs s kind seq time a b c w H ha hb oo oo c3 oo i1 i2 i3 i4 i5 i6 i7 c5
 by_cases c6:s.jump<s.high-a-s.last
 ·rw[if_pos ⟨c5,.inl c6⟩];by_cases c7:s.threw<s.throw
  ·rw[if_pos c7];exact aZo g o t cs s kind seq time a b c w H ha hb oo oo c3 oo i1 i2 i3 i4 i5 i6 i7 c5 c6 c7
  ·rw[if_neg c7];exact aZp g o t cs s kind seq time a b c w H ha hb oo oo c3 oo i1 i2 i3 i4 i5 i6 i7 c5 c6 oo
 by_cases c8:s.high-a-s.last < -s.jump
 ·rw[if_pos ⟨c5,.inr c8⟩];by_cases c7:s.threw<s.throw
  ·rw[if_pos c7];exact aZq g o t cs s kind seq time a b c w H ha hb oo oo c3 oo i1 i2 i3 i4 i5 i6 i7 c5 c8 c7
  ·rw[if_neg c7];exact aZr g o t cs s kind seq time a b c w H ha hb oo oo c3 oo i1 i2 i3 i4 i5 i6 i7 c5 c8 oo
 rw[if_neg oo];exact aZn g o t cs s kind seq time a b c w H ha hb oo oo c3 oo i1 i2 i3 i4 i5 i6 i7 c5 oo oo
def Ln.take(s:Ln)(kind seq time a:Int):Ln×Int×Int×Bool :=
 if kind<1∨5<kind then (s.note 2,2,0,false)
 else if s.late seq time then (s.note 1,1,0,false)
 else if kind=3 then (({ s.order seq time with high:=a,since:=time,has:=true }:Ln).note 0,0,0,false)
 else if kind=2 then (s.order seq time).radar time a
 else ((s.order seq time).note 6,6,0,false)
theorem aGf(s:Ln)(seq time:Int)(h:s.ok):(s.order seq time).ok:=by unfold Ln.order;split<;>exact h
theorem aXk{w0:World}(g o:Nat)(t:TypeId)(cs:Array Value)(s:Ln)(kind seq time a b c:Int)(w:World)(U:cL w0 g t cs o s.enc w):
  Calls prog 107 #[.pointer (some ⟨g,o,none⟩),dQ kind seq time a b c] w fun e w'=>e=.returned (.bool (!(s.late seq time)))∧cL w0 g t cs o (s.order seq time).enc w' :=
 (aD2 g o t cs s kind seq time a b c w U.1).mono fun _ _ ⟨he,hu⟩=>⟨he,U.trans hu⟩
theorem aZs{w0:World}(g o:Nat)(t:TypeId)(cs:Array Value)(s:Ln)(kind seq time a b c:Int)(w:World)(U:cL w0 g t cs o s.enc w)(hok:s.ok)(ha : -2147483648≤a)(hb:a<2147483648):
  Calls prog 108 #[.pointer (some ⟨g,o,none⟩),dQ kind seq time a b c] w (tC w0 g t cs o (s.radar time a)) :=
 (aZi g o t cs s kind seq time a b c w U.1 hok ha hb).mono fun _ _ ⟨he,hu⟩=>⟨he,U.trans hu⟩
theorem bBl(g o:Nat)(t:TypeId)(cs:Array Value)(s:Ln)(kind seq time a b c:Int)(w:World)(H:dA w g t cs o s.enc)(hok:s.ok)(ha : -2147483648≤a)(hb:a<2147483648)
  (c1:kind<1) :
  Calls prog 64 #[.pointer (some ⟨g,o,none⟩),dQ kind seq time a b c] w (tC w g t cs o (s.note 2,2,0,false)):=by
 have hg:=H.lt;have HH:=Lib.hid H;have HO:=Lib.hid hok;clear H hok;unfold dQ
 go_enter func64,ntmps64
 go_wp2_with fail
 refine(oH g o t cs s 2 _ ((cL.start HH.out).alloc _) od od).mono ?_;rintro e w' ⟨rfl,hu'⟩
 go_wp2
 go_ret3
 exact⟨rfl,hu'⟩
theorem bBn(g o:Nat)(t:TypeId)(cs:Array Value)(s:Ln)(kind seq time a b c:Int)(w:World)(H:dA w g t cs o s.enc)(hok:s.ok)(ha : -2147483648≤a)(hb:a<2147483648)
  (c1:5<kind) :
  Calls prog 64 #[.pointer (some ⟨g,o,none⟩),dQ kind seq time a b c] w (tC w g t cs o (s.note 2,2,0,false)):=by
 have hg:=H.lt;have HH:=Lib.hid H;have HO:=Lib.hid hok;clear H hok;unfold dQ
 go_enter func64,ntmps64
 go_wp2_with fail
 refine(oH g o t cs s 2 _ ((cL.start HH.out).alloc _) od od).mono ?_;rintro e w' ⟨rfl,hu'⟩
 go_wp2
 go_ret3
 exact⟨rfl,hu'⟩
theorem bBo(g o:Nat)(t:TypeId)(cs:Array Value)(s:Ln)(kind seq time a b c:Int)(w:World)(H:dA w g t cs o s.enc)(hok:s.ok)(ha : -2147483648≤a)(hb:a<2147483648)
  (c1:1≤kind) (c2:kind≤5) (c3:s.late seq time=true) :
  Calls prog 64 #[.pointer (some ⟨g,o,none⟩),dQ kind seq time a b c] w (tC w g t cs o (s.note 1,1,0,false)):=by
 have hg:=H.lt;have HH:=Lib.hid H;have e2:s.order seq time=s:=by simp[Ln.order,c3]
 have E2:=Lib.hid e2;have HL:=Lib.hid c3;clear c3 e2;have HO:=Lib.hid hok;clear H hok;unfold dQ
 go_enter func64,ntmps64
 go_wp2_with fail
 refine(aXk g o t cs s kind seq time a b c _ ((cL.start HH.out).alloc _)).mono ?_;rintro e w1 ⟨rfl,hu⟩;rw[HL.out];rw[E2.out]at hu
 go_wp2_with fail
 refine(oH g o t cs s 1 _ hu od od).mono ?_;rintro e w' ⟨rfl,hu'⟩
 go_wp2
 go_ret3
 exact⟨rfl,hu'⟩
theorem aUj{w0 w:World}{g:Nat}{t:TypeId}{cs:Array Value}{o:Nat}{s:Ln}(H:cL w0 g t cs o s.enc w)(a time:Int)(n:Nat):
  cL w0 g t cs o (Ln.enc { s with high:=a,since:=time,has:=true }) ((((w.drewN n).setCell ⟨g,o+7,none⟩ (.int .i64 a)).setCell ⟨g,o+8,none⟩ (.int .u32 time)).setCell ⟨g,o+9,none⟩ (.bool true)) :=
 ((H.drewN n).set_ 7 (.int .i64 a) (by simp[Ln.enc]) |>.set_ 8 (.int .u32 time) (by simp[Ln.enc]) |>.set_ 9 (.bool true) (by simp[Ln.enc]))
theorem aHq{w:World}{g:Nat}{t:TypeId}{cs:Array Value}{o:Nat}{ob:Obj}{xs:List Value}{w1:World}(hu:cL (w.alloc ob) g t cs o xs w1):cL w g t cs o xs w1 :=
 ⟨hu.1,aM5 (World.grownBy_alloc w ob _) hu.2⟩
theorem mD{w:World}{g:Nat}{t e:TypeId}{cs:Array Value}{o:Nat}{bs:Array Value}{xs:List Value}{w1:World}(hu:cL (w.alloc (.cells bs e)) g t cs o xs w1)(hg:g<w.heap.size)(k:Nat)(v:Value)(hv:bs[k]? = some v):
  w1.cell? ⟨w.heap.size,k,none⟩=some v:=by
 refine hu.2.cell (a:=⟨w.heap.size,k,none⟩) ?_ (by simp;omega);exact(cell_of_row _ _ _ _ _ _ (heap_alloc_new w (.cells bs e))).trans hv
theorem bBp(g o:Nat)(t:TypeId)(cs:Array Value)(s:Ln)(kind seq time a b c:Int)(w:World)(H:dA w g t cs o s.enc)(hok:s.ok)(ha : -2147483648≤a)(hb:a<2147483648)
  (c3:s.late seq time=false) (c1:kind=3) :
  Calls prog 64 #[.pointer (some ⟨g,o,none⟩),dQ kind seq time a b c] w (tC w g t cs o (({ s.order seq time with high:=a,since:=time,has:=true }:Ln).note 0,0,0,false)):=by
 have hg:=H.lt;have HH:=Lib.hid H;subst c1;have HL:=Lib.hid c3;clear c3;have HO:=Lib.hid hok;clear H hok;unfold dQ
 go_enter func64,ntmps64
 go_wp2_with fail
 refine(aD2 g o t cs s 3 seq time a b c _ (HH.out.alloc _)).mono ?_;rintro e w1 ⟨rfl,hu⟩;rw[HL.out];have b0:w1.cell? ⟨w.heap.size,0,none⟩=some (.int .i64 3):=mD hu hg 0 _ rfl;have b1:w1.cell? ⟨w.heap.size,1,none⟩=some (.int .u16 seq):=mD hu hg 1 _ rfl;have b2:w1.cell? ⟨w.heap.size,2,none⟩=some (.int .u32 time):=mD hu hg 2 _ rfl;have b3:w1.cell? ⟨w.heap.size,3,none⟩=some (.int .i32 a):=mD hu hg 3 _ rfl;have b4:w1.cell? ⟨w.heap.size,4,none⟩=some (.int .i32 b):=mD hu hg 4 _ rfl;have b5:w1.cell? ⟨w.heap.size,5,none⟩=some (.int .i32 c):=mD hu hg 5 _ rfl;have HU:=Lib.hid (aHq hu);have HK:=Lib.hid (aGf s seq time HO.out);generalize s.order seq time=s1 at *;have H1:=hu.1;have h7:w1.cell? ⟨g,o+7,none⟩=some (.int .i64 s1.high):=H1.cell_is rfl;have h8:w1.cell? ⟨g,o+8,none⟩=some (.int .u32 s1.since):=H1.cell_is rfl;have h9:w1.cell? ⟨g,o+9,none⟩=some (.bool s1.has):=H1.cell_is rfl;have f7:w1.frozen? ⟨g,o+7,none⟩=false:=H1.frozen _;have f8:w1.frozen? ⟨g,o+8,none⟩=false:=H1.frozen _;have f9:w1.frozen? ⟨g,o+9,none⟩=false:=H1.frozen _;clear hu H1
 go_wp2_with fail
 go_region
 all_goals go_wp2_with fail
 refine(oH g o t cs { s1 with high:=a,since:=time,has:=true } 0 _ (aUj HU.out _ _ _) od od).mono ?_;rintro e w' ⟨rfl,hu'⟩
 go_wp2
 go_ret3
 exact⟨rfl,hu'⟩
theorem bBq(g o:Nat)(t:TypeId)(cs:Array Value)(s:Ln)(kind seq time a b c:Int)(w:World)(H:dA w g t cs o s.enc)(hok:s.ok)(ha : -2147483648≤a)(hb:a<2147483648)
  (c3:s.late seq time=false) (c1:kind=2) :
  Calls prog 64 #[.pointer (some ⟨g,o,none⟩),dQ kind seq time a b c] w (tC w g t cs o ((s.order seq time).radar time a)):=by
 have hg:=H.lt;have HH:=Lib.hid H;subst c1;have HL:=Lib.hid c3;clear c3;have HO:=Lib.hid hok;clear H hok;unfold dQ
 go_enter func64,ntmps64
 go_wp2_with fail
 refine(aD2 g o t cs s 2 seq time a b c _ (HH.out.alloc _)).mono ?_;rintro e w1 ⟨rfl,hu⟩;rw[HL.out];have b0:w1.cell? ⟨w.heap.size,0,none⟩=some (.int .i64 2):=mD hu hg 0 _ rfl;have b1:w1.cell? ⟨w.heap.size,1,none⟩=some (.int .u16 seq):=mD hu hg 1 _ rfl;have b2:w1.cell? ⟨w.heap.size,2,none⟩=some (.int .u32 time):=mD hu hg 2 _ rfl;have b3:w1.cell? ⟨w.heap.size,3,none⟩=some (.int .i32 a):=mD hu hg 3 _ rfl;have b4:w1.cell? ⟨w.heap.size,4,none⟩=some (.int .i32 b):=mD hu hg 4 _ rfl;have b5:w1.cell? ⟨w.heap.size,5,none⟩=some (.int .i32 c):=mD hu hg 5 _ rfl;have HU:=Lib.hid (aHq hu);have HK:=Lib.hid (aGf s seq time HO.out);generalize s.order seq time=s1 at *;have H1:=hu.1;have h7:w1.cell? ⟨g,o+7,none⟩=some (.int .i64 s1.high):=H1.cell_is rfl;have h8:w1.cell? ⟨g,o+8,none⟩=some (.int .u32 s1.since):=H1.cell_is rfl;have h9:w1.cell? ⟨g,o+9,none⟩=some (.bool s1.has):=H1.cell_is rfl;have f7:w1.frozen? ⟨g,o+7,none⟩=false:=H1.frozen _;have f8:w1.frozen? ⟨g,o+8,none⟩=false:=H1.frozen _;have f9:w1.frozen? ⟨g,o+9,none⟩=false:=H1.frozen _;clear hu H1
 go_wp2_with fail
 refine(aZs g o t cs s1 2 seq time a b c _ HU.out HK.out ha hb).mono ?_;rintro e w2 ⟨rfl,hu'⟩
 go_wp2
 go_ret3
 exact⟨rfl,hu'⟩
theorem bBr(g o:Nat)(t:TypeId)(cs:Array Value)(s:Ln)(kind seq time a b c:Int)(w:World)(H:dA w g t cs o s.enc)(hok:s.ok)(ha : -2147483648≤a)(hb:a<2147483648)
  (c3:s.late seq time=false) (c1:1≤kind) (c2:kind≤5) (c4:kind≠2) (c5:kind≠3) :
  Calls prog 64 #[.pointer (some ⟨g,o,none⟩),dQ kind seq time a b c] w (tC w g t cs o ((s.order seq time).note 6,6,0,false)):=by
 have hg:=H.lt;have HH:=Lib.hid H;have HL:=Lib.hid c3;clear c3;have d1:(kind==3)=false:=by simpa using c5
 have d2:(kind==2)=false:=by simpa using c4
 have HO:=Lib.hid hok;clear H hok;unfold dQ
 go_enter func64,ntmps64
 go_wp2_with fail
 refine(aD2 g o t cs s kind seq time a b c _ (HH.out.alloc _)).mono ?_;rintro e w1 ⟨rfl,hu⟩;rw[HL.out];have b0:w1.cell? ⟨w.heap.size,0,none⟩=some (.int .i64 kind):=mD hu hg 0 _ rfl;have b1:w1.cell? ⟨w.heap.size,1,none⟩=some (.int .u16 seq):=mD hu hg 1 _ rfl;have b2:w1.cell? ⟨w.heap.size,2,none⟩=some (.int .u32 time):=mD hu hg 2 _ rfl;have b3:w1.cell? ⟨w.heap.size,3,none⟩=some (.int .i32 a):=mD hu hg 3 _ rfl;have b4:w1.cell? ⟨w.heap.size,4,none⟩=some (.int .i32 b):=mD hu hg 4 _ rfl;have b5:w1.cell? ⟨w.heap.size,5,none⟩=some (.int .i32 c):=mD hu hg 5 _ rfl;have HU:=Lib.hid (aHq hu);have HK:=Lib.hid (aGf s seq time HO.out);generalize s.order seq time=s1 at *;have H1:=hu.1;have h7:w1.cell? ⟨g,o+7,none⟩=some (.int .i64 s1.high):=H1.cell_is rfl;have h8:w1.cell? ⟨g,o+8,none⟩=some (.int .u32 s1.since):=H1.cell_is rfl;have h9:w1.cell? ⟨g,o+9,none⟩=some (.bool s1.has):=H1.cell_is rfl;have f7:w1.frozen? ⟨g,o+7,none⟩=false:=H1.frozen _;have f8:w1.frozen? ⟨g,o+8,none⟩=false:=H1.frozen _;have f9:w1.frozen? ⟨g,o+9,none⟩=false:=H1.frozen _;clear hu H1
 go_wp2_with fail
 refine(oH g o t cs s1 6 _ HU.out od od).mono ?_;rintro e w' ⟨rfl,hu'⟩
 go_wp2
 go_ret3
 exact⟨rfl,hu'⟩
theorem bBm(g o:Nat)(t:TypeId)(cs:Array Value)(s:Ln)(kind seq time a b c:Int)(w:World)(H:dA w g t cs o s.enc)(hok:s.ok)(ha : -2147483648≤a)(hb:a<2147483648):
  Calls prog 64 #[.pointer (some ⟨g,o,none⟩),dQ kind seq time a b c] w (tC w g t cs o (s.take kind seq time a)):=by
 unfold Ln.take;by_cases c1:kind<1
 ·rw[if_pos (.inl c1)];exact bBl g o t cs s kind seq time a b c w H hok ha hb c1
 by_cases c2:5<kind
 ·rw[if_pos (.inr c2)];exact bBn g o t cs s kind seq time a b c w H hok ha hb c2
 rw[if_neg oo];rcases Bool.eq_false_or_eq_true (s.late seq time) with c3|c3
 ·rw[if_pos c3];exact bBo g o t cs s kind seq time a b c w H hok ha hb oo oo c3
 rw[if_neg (by simp[c3])];by_cases c4:kind=3
 ·rw[if_pos c4];exact bBp g o t cs s kind seq time a b c w H hok ha hb c3 c4
 rw[if_neg c4];by_cases c5:kind=2
 ·rw[if_pos c5];exact bBq g o t cs s kind seq time a b c w H hok ha hb c3 c5
 rw[if_neg c5];exact bBr g o t cs s kind seq time a b c w H hok ha hb c3 oo oo c5 c4
def rul(age jump throw most:Int):Value:=.agg #[.int .u32 age,.int .i64 jump,.int .i64 throw,.int .i64 most]
def wT(age jump throw most:Int):Bool:=decide (age≤60000∧1≤jump∧jump≤1048576∧0≤throw∧throw≤100∧1≤most∧most≤1048576)
def aB5(age jump throw most:Int):Int:=if wT age jump throw most then 0 else 2
theorem aS0(age jump throw most:Int)(w:World):
  Calls prog 46 #[rul age jump throw most] w fun e w'=>e=.returned (.int .i64 (aB5 age jump throw most))∧Below w.heap.size w w':=by
 unfold rul
 go_enter func46,ntmps46
 go_wp2
 all_goals
  go_ret
  refine⟨?_,(Below.refl _ _).alloc (Nat.le_refl _) _⟩;first
   | (have hr : wT age jump throw most = true := by unfold wT; apply decide_eq_true; omega
      simp [aB5, hr])
   | (have hr : wT age jump throw most = false := by unfold wT; apply decide_eq_false; omega
      simp [aB5, hr])
def Ln.new(age jump throw most:Int):Ln:=⟨age,jump,throw,most,false,0,0,0,0,false,0,false,0,0,0,0,0,0,0,0⟩
def Ln.val(s:Ln):Value:=.agg s.enc.toArray
theorem Ln.one(s:Ln):s.enc.toArray.all (·.oneCell')=true:=by simp[Ln.enc,Value.oneCell']
theorem Ln.info(s:Ln):(prog.info? 118).map (·.size)=some s.enc.toArray.size:=by
 have h:(prog.info? 118).map (·.size)=some 20:=by kernel_rfl
 exact h
theorem aWt(age jump throw most:Int)(w:World)(hr:wT age jump throw most=true):
  Calls prog 59 #[rul age jump throw most] w fun e w'=>e=.returned (.tuple #[(Ln.new age jump throw most).val,.int .i64 0])∧Below w.heap.size w w':=by
 have hc:aB5 age jump throw most=0:=by simp[aB5,hr]
 have HC:=Lib.hid hc;clear hr hc;unfold rul
 go_enter func59,ntmps59
 go_wp2_with fail
 refine(aS0 age jump throw most _).mono ?_;rintro e w1 ⟨rfl,hb⟩;rw[HC.out];have ho:w1.heap[w.heap.size+1]? = some (.cells (Ln.new 0 0 0 0).enc.toArray 118 (0,0)) :=
  (hb.block _ aE).trans (aUi _ aE)
 have hbx:w1.cell? ⟨w.heap.size,0,none⟩=some (.int .u32 age):=(hb.cell (p:=⟨w.heap.size,0,none⟩) (by simp only[World.size_alloc];omega)).trans aE;have hby:w1.cell? ⟨w.heap.size,1,none⟩=some (.int .i64 jump):=(hb.cell (p:=⟨w.heap.size,1,none⟩) (by simp only[World.size_alloc];omega)).trans aE;have hbz:w1.cell? ⟨w.heap.size,2,none⟩=some (.int .i64 throw):=(hb.cell (p:=⟨w.heap.size,2,none⟩) (by simp only[World.size_alloc];omega)).trans aE;have hbt:w1.cell? ⟨w.heap.size,3,none⟩=some (.int .i64 most):=(hb.cell (p:=⟨w.heap.size,3,none⟩) (by simp only[World.size_alloc];omega)).trans aE;have HB:=Lib.hid hb;have HO:=Lib.hid ho;clear hb ho
 go_wp2_with (refine wpList_store_row rfl 118 _ _ rfl (w.heap.size+1) (Ln.new age jump throw most).enc.toArray rfl rfl 118 _ HO.out (Ln.info _) rfl (Ln.one _) ?_)
 have hg:=setRow_heap HO.out (Ln.new age jump throw most).enc.toArray;refine bodyPost_ret (aZz rfl _ _ (w.heap.size+1) 118 _ (0,0) _ rfl hg underlying118 rfl (by kernel_rfl)) rfl ?_;refine⟨rfl,?_⟩;exact aQg ((((Below.refl w.heap.size w).alloc (Nat.le_refl _) _).alloc aE _).trans (HB.out.mono (by simp;omega))) oo _
theorem aJt{P:Program}{f:FuncId}{args:List Value}{S:List HE}{w:World}{Rl:Value→List HE→Prop}(h:Calls P f args.toArray w (nZ S w Rl)):aF P f args S w Rl:=fun _=>callsIn_wide.2 h
theorem aSx{P:Program}{f:FuncId}{args:List Value}{w:World}{v0:Value}(h:Calls P f args.toArray w (fun e w'=>e=.returned v0∧Below w.heap.size w w')):aF P f args [] w (fun v S'=>v=v0∧S'=[]) :=
 aJt (h.mono fun e w' ⟨he,hb⟩=>⟨v0,[],he,⟨rfl,rfl⟩,⟨hb.os,hb.tape,hb.output,hb.size,fun b hlt _=>hb.block b hlt,⟨aE,.nil⟩,aE⟩⟩)
abbrev tO:Ln→List Value:=fun s=>[.int .u32 s.age,.int .i64 s.jump,.int .i64 s.throw,.int .i64 s.most,.bool s.any,.int .u16 s.seq,.int .u32 s.time,.int .i64 s.high,.int .u32 s.since,.bool s.has,.int .i64 s.last,.bool s.based,.int .i64 s.threw,.int .i64 s.c0,.int .i64 s.c1,.int .i64 s.c2,.int .i64 s.c3,.int .i64 s.c4,.int .i64 s.c5,.int .i64 s.c6]
