import Derived.RangeFuncRecord
import Derived.ChangeKeysEq
import Derived.Test.YtpmkboockihdbaaGreatP20
set_option maxHeartbeats 512000000
set_option maxRecDepth 4000
set_option linter.unusedVariables false
set_option linter.unusedSimpArgs false
namespace Go.Proofs.YtpmkboockihdbaaGreat
open Go.RowKit _root_.Go.Proofs.Tryz
instance (f:Fn)(xs ys:Array Value):wJ (.func f xs ys):=⟨rfl⟩
section
variable {F:Fence} {n:Nat} {P:Program} {N:Nat} {ds:List Deferred} {w0:World} {W:Nat→Prop} {σ:List (Nat×Value)} {H R:List HE} {Q:Exit→Act→World→Prop} {K:Act→World→Prop}
variable {d:Nat} {ty:TypeId} {pos:String} {aft:Array Edge} {gd:Option (Nat×Bool)} {o:Oper} {ops:Array Oper} {rest:List Oper}
theorem aXf[hF:aX F][hW:WF F]{dst:Option Nat}{x:Operand}{f:FuncId}{first captured:Array Value}{args:Array Operand}{ts:Array TypeId}{vs:List Value}[hcl:Cl P f]{S:List HE}{Rl:Value→List HE→Prop}
  (hx:ev σ x=some (.func (.func f) first captured)) (hv:vals σ args.toList=some vs) (hs:aD H S R)
  (hc:∀w,St w0 W H w→aZ S w→aF P f (first.toList++vs++captured.toList) S w Rl)
  (h:∀v S',Rl v S'→∀a w,Tm N ds σ a→St w0 W (S'++R) w→K (a.put dst v) w) :
  OJ F n P N ds w0 W σ H ⟨dst,.call ⟨.value x,args,ts⟩,ty,pos,aft,gd⟩ K Q:=by
 intro a w ha hw;have hargs:args.map a.eval=vs.toArray:=by rw[← zG ha hv];apply Array.ext';simp
 refine⟨fun f _=>hF.out.fn f,?_⟩;rw[Oper.semAt_plain F _ _ aE];have e0:(first++vs.toArray++captured:Array Value)=(first.toList++vs++captured.toList).toArray:=by apply Array.ext';simp
 simp only[execOp,resolve,invoke,Deferred.ofValue,Sem.run_bind,Sem.run_pure,Result.andThen_ok,ha.eval hx,hargs,hcl.h,Oper.uponIn_enter,e0];refine⟨fun hd=>(by rw[hF.out.depth]at hd;cases hd),(hW.h (hc w hw (hw.sub_own hs) (n-1))).mono ?_⟩;rintro e w' ⟨v,S',rfl,hr,hst⟩;exact h v S' hr _ _ ha (hw.call hs hst)
theorem lb[aX F][WF F]{dst:Nat}{x:Operand}{f:FuncId}{first captured:Array Value}{args:Array Operand}{ts:Array TypeId}{vs:List Value}[Cl P f]{S:List HE}{Rl:Value→List HE→Prop}
  (hw:cB ops σ ⟨some dst,.call ⟨.value x,args,ts⟩,ty,pos,aft,gd⟩=some true) (hx:ev σ x=some (.func (.func f) first captured)) (hv:vals σ args.toList=some vs) (hdN:Nat.blt dst N=true)
  (hc:∀w,St w0 W H w→aZ S w→aF P f (first.toList++vs++captured.toList) S w Rl) [hs:vC H S R] (h:∀v S',Rl v S'→J N ds w0 W ((dst,v)::σ) (S'++R) (wpListIn F n P ops Q rest)) :
  J N ds w0 W σ H (wpListIn F n P ops Q (⟨some dst,.call ⟨.value x,args,ts⟩,ty,pos,aft,gd⟩::rest)) :=
 kT hw (aXf hx hv hs.h hc fun v S' hr a w ha hw=>h v S' hr _ _ (ha.put dst v (by simpa using hdN)) hw)
end
theorem aOq{H S R:List HE}(y:HE)(h:aD H S R):aD (y::H) S (y::R):=by
 induction h with
 | nil H=>exact .nil _
 | cons h _ ih=>exact .cons (.there y h) ih
section
variable {n:Nat} {P:Program} {N:Nat} {ds:List Deferred} {w0:World} {W:Nat→Prop} {σ:List (Nat×Value)} {H R:List HE} {Q:Exit→Act→World→Prop}
end
structure cQ where
 dx:Int
 dy:Int
 z:Int
deriving Inhabited
def tK(W H:Nat)(f:List Int)(X Y:Int)(l:List cQ):Nat→Bool
 | 0=>true
 | i+1=>tK W H f X Y l i&&eN W H f (X+(l.getD i default).dx) (Y+(l.getD i default).dy)==0
def nE(W H:Nat)(f:List Int)(X Y:Int)(l:List cQ):Nat→List Int
 | 0=>[]
 | i+1=>nE W H f X Y l i++[lI W H f (X+(l.getD i default).dx) (Y+(l.getD i default).dy)-(l.getD i default).z]
theorem aF0(W H:Nat)(f:List Int)(X Y:Int)(l:List cQ):∀i,(nE W H f X Y l i).length=i
 | 0=>rfl
 | i+1=>by rw[nE,List.length_append,aF0 W H f X Y l i];rfl
structure kR where
 i:Int
 k:Int
 cost:Int
deriving Inhabited
def aHb(W H:Nat)(f:List Int)(X Y:Int)(l:List cQ)(m eA eR eS:Int):Option (Int×Int) :=
 if tK W H f X Y l l.length=true then some (qA (nE W H f X Y l l.length) m eA eR eS)else none
def fC(g:Nat→Option (Int×Int))(p:Nat→Int×Int):Nat→List kR×Bool
 | 0=>([],false)
 | n+1=>if (fC g p n).2=true then fC g p n else
  match g n with
  | none=>fC g p n
  | some (c,e)=>if e=0 then ((fC g p n).1++[⟨(p n).1,(p n).2,c⟩],false)else ((fC g p n).1,true)
def pL(l:List kR):Nat→Option Nat
 | 0=>none
 | i+1=>match pL l i with
  | none=>some i
  | some b=>if (l.getD i default).cost<(l.getD b default).cost then some i else some b
def aFu(a b:kR)(away:Int):Bool:=decide (away<max (max (max (a.i-b.i) (b.i-a.i)) (a.k-b.k)) (b.k-a.k))
def oF(l:List kR)(b:kR)(away:Int):Nat→Int
 | 0=>-1
 | i+1=>if aFu (l.getD i default) b away=true∧(oF l b away i<0∨(l.getD i default).cost<oF l b away i)then (l.getD i default).cost else oF l b away i
theorem aCi{l:List kR}: ∀{n b:Nat},pL l n=some b→b<n
 | 0,b,h=>by simp[pL]at h
 | n+1,b,h=>by
  rw[pL]at h;split at h
  ·simp at h;omega
  ·rename_i c hc;have:=aCi hc;split at h<;>simp at h<;>omega
theorem aJh{l:List kR}{n:Nat}:pL l n=none↔n=0:=by
 cases n with
 | zero=>simp[pL]
 | succ n =>
  rw[pL];split
  ·simp
  ·split<;>simp
def fJ(l:List kR):Nat→kR
 | 0=>⟨0,0,-1⟩
 | i+1=>if (fJ l i).cost<0∨(l.getD i default).cost<(fJ l i).cost then l.getD i default else fJ l i
theorem aFb{l:List kR}(h:∀i,i<l.length→0≤(l.getD i default).cost):∀{n:Nat},n≤l.length→(pL l n=none→fJ l n=⟨0,0,-1⟩)∧∀b,pL l n=some b→fJ l n=l.getD b default
 | 0,_=>⟨fun _=>rfl,fun b q=>by simp[pL]at q⟩
 | n+1,hn=>by
  obtain⟨h1,h2⟩:=aFb h (n:=n) oo;refine⟨fun q=>absurd (aJh.1 q) oo,fun b q=>?_⟩;rw[pL]at q;rw[fJ];cases hb:pL l n with
  | none =>
   rw[hb]at q;simp only[Option.some.injEq]at q;subst q;rw[h1 hb,if_pos (.inl od)]
  | some c =>
   rw[hb]at q;have hc:=aCi hb;have hc0:=h c oo;rw[h2 c hb];simp only at q;split at q
   ·rename_i q1;simp only[Option.some.injEq]at q;subst q;rw[if_pos (.inr q1)]
   ·rename_i q1;simp only[Option.some.injEq]at q;subst q;rw[if_neg oo]
theorem aG6{W H:Nat}{f:List Int}(hf:dK f)(X Y:Int): -1048576≤lI W H f X Y∧lI W H f X Y≤1048576:=by
 unfold lI;split
 ·obtain⟨a,b,c,d,e,ha,hb,hc,hd⟩:=aKx hf (W:=W) (H:=H) X Y;rw[e];simp only[exL];obtain⟨h1,h2,h3,h4,h5,h6⟩:=aFs (fx:=X%256) (fy:=Y%256) ⟨ha,hb,hc,hd⟩ oo oo;have g1:=Int.mul_le_mul_of_nonneg_right (show a*(256-X%256)+b*(X%256)≤8388608 from by have:=Int.mul_le_mul_of_nonneg_right ha.2 (show 0≤256-X%256 by omega);have:=Int.mul_le_mul_of_nonneg_right hb.2 (show 0≤X%256 by omega);omega) (show 0≤256-Y%256 by omega);have g2:=Int.mul_le_mul_of_nonneg_right (show c*(256-X%256)+d*(X%256)≤8388608 from by have:=Int.mul_le_mul_of_nonneg_right hc.2 (show 0≤256-X%256 by omega);have:=Int.mul_le_mul_of_nonneg_right hd.2 (show 0≤X%256 by omega);omega) (show 0≤Y%256 by omega);have g3:=Int.mul_le_mul_of_nonneg_right (show -8388608≤a*(256-X%256)+b*(X%256)from by have:=Int.mul_le_mul_of_nonneg_right ha.1 (show 0≤256-X%256 by omega);have:=Int.mul_le_mul_of_nonneg_right hb.1 (show 0≤X%256 by omega);omega) (show 0≤256-Y%256 by omega);have g4:=Int.mul_le_mul_of_nonneg_right (show -8388608≤c*(256-X%256)+d*(X%256)from by have:=Int.mul_le_mul_of_nonneg_right hc.1 (show 0≤256-X%256 by omega);have:=Int.mul_le_mul_of_nonneg_right hd.1 (show 0≤X%256 by omega);omega) (show 0≤Y%256 by omega);unfold yP;omega
 ·omega
abbrev cD:cQ→List Value:=fun s=>[.int .i64 s.dx,.int .i64 s.dy,.int .i64 s.z]
abbrev jF:kR→List Value:=fun s=>[.int .i64 s.i,.int .i64 s.k,.int .i64 s.cost]
instance:pX cD 3:=⟨fun _=>rfl,od⟩
structure eK where
 x:Int
 y:Int
 far:Int
 step:Int
@[reducible] def mQ(s:eK):List Value:=[.int .i64 s.x,.int .i64 s.y,.int .i64 s.far,.int .i64 s.step]
def sL(s:cQ):Prop:=(-4194304≤s.z∧s.z≤4194304)∧(-1073741824≤s.dx∧s.dx≤1073741824)∧(-1073741824≤s.dy∧s.dy≤1073741824)
instance (s:cQ):Decidable (sL s):=by unfold sL;infer_instance
def vD(l:List cQ):Nat→Bool
 | 0=>false
 | i+1=>vD l i||!decide (sL (l.getD i default))
theorem aCe{l:List cQ}: ∀{i:Nat},vD l i=false↔∀j,j<i→sL (l.getD j default)
 | 0=>⟨fun _ j hj=>by omega,fun _=>rfl⟩
 | i+1=>by
  have ih:=aCe (l:=l) (i:=i);rw[vD,Bool.or_eq_false_iff,ih,Bool.not_eq_false',decide_eq_true_iff];constructor
  ·rintro⟨h1,h2⟩ j hj;rcases Nat.lt_or_ge j i with h|h
   ·exact h1 j h
   ·obtain rfl:j=i:=oo;exact h2
  ·intro h;exact⟨fun j hj=>h j oo,h i oo⟩
theorem aQx{l:List cQ}{i n:Nat}(hi:i<n)(h:¬sL (l.getD i default)):vD l n=true:=by
 cases hb:vD l n with
 | true=>rfl
 | false=>exact absurd (aCe.1 hb i hi) h
def vB(s:eK):Prop:=(0≤s.far∧s.far≤32)∧(1≤s.step∧s.step≤4096)∧(-1099511627776≤s.x∧s.x≤1099511627776)∧(-1099511627776≤s.y∧s.y≤1099511627776)
instance (s:eK):Decidable (vB s):=by unfold vB;infer_instance
def mN(s:eK)(l:List cQ):Int:=if ¬vB s then 2 else if l.length=0∨64<l.length then 5 else if vD l l.length=true then 1 else 0
theorem aCo{s:eK}{l:List cQ}(h:mN s l=0):vB s∧(0<l.length∧l.length≤64)∧∀j,j<l.length→sL (l.getD j default):=by
 unfold mN at h;split at h
 ·cases h
 rename_i h1;split at h
 ·cases h
 rename_i h2;split at h
 ·cases h
 rename_i h3;exact⟨Classical.not_not.1 h1,oo,aCe.1 (by simpa using h3)⟩
section
variable {g:Nat→Option (Int×Int)} {p:Nat→Int×Int}
theorem aJ5{n:Nat}(h:(fC g p n).2=true):∀k,fC g p (n+k)=fC g p n
 | 0=>rfl
 | k+1=>by have ih:=aJ5 h k;show fC g p (n+k+1)=_;rw[fC,ih,if_pos h]
theorem aQj{n:Nat}(h:(fC g p n).2=false)(hg:g n=none):fC g p (n+1)=fC g p n:=by rw[fC,if_neg (by rw[h];decide),hg]
theorem aJ4{n:Nat}{c:Int}(h:(fC g p n).2=false)(hg:g n=some (c,0)):fC g p (n+1)=((fC g p n).1++[⟨(p n).1,(p n).2,c⟩],false):=by rw[fC,if_neg (by rw[h];decide),hg];rfl
theorem aQi{n:Nat}{c e:Int}(h:(fC g p n).2=false)(hg:g n=some (c,e))(he:e≠0):fC g p (n+1)=((fC g p n).1,true):=by rw[fC,if_neg (by rw[h];decide),hg];simp[he]
theorem aJ3(n:Nat):∀k,∃r,(fC g p (n+k)).1=(fC g p n).1++r
 | 0=>⟨[],aE⟩
 | k+1=>by
  obtain⟨r,hr⟩:=aJ3 n k;show ∃r,(fC g p (n+k+1)).1=_;rw[fC];split
  ·exact⟨r,hr⟩
  split
  ·exact⟨r,hr⟩
  split
  ·exact⟨r++[⟨(p (n+k)).1,(p (n+k)).2,_⟩],by rw[hr,List.append_assoc]⟩
  ·exact⟨r,hr⟩
theorem aJ2:∀n,(fC g p n).1.length≤n
 | 0=>Nat.le_refl _
 | n+1=>by
  have ih:=aJ2 n;rw[fC];split
  ·omega
  split
  ·omega
  split
  ·simp;omega
  ·show (fC g p n).1.length≤n+1;omega
theorem aQh{n N:Nat}{c:Int}(hn:n<N)(h:(fC g p n).2=false)(hg:g n=some (c,0)):(fC g p N).1.getD (fC g p n).1.length default=⟨(p n).1,(p n).2,c⟩∧(fC g p n).1.length<(fC g p N).1.length:=by
 obtain⟨r,hr⟩:=aJ3 (g:=g) (p:=p) (n+1) (N-(n+1));rw[show n+1+(N-(n+1))=N by omega,aJ4 h hg]at hr;rw[hr];constructor
 ·rw[List.getD_eq_getElem?_getD,List.getElem?_append_left aE,List.getElem?_append_right (Nat.le_refl _),Nat.sub_self];rfl
 ·simp
theorem aEz:∀(N:Nat) (x:kR),x∈(fC g p N).1→∃n,n<N∧x.i=(p n).1∧x.k=(p n).2∧g n=some (x.cost,0)
 | 0,x,h=>by simp[fC]at h
 | N+1,x,h=>by
  have ih:=aEz N x;have up:x∈(fC g p N).1→∃n,n<N+1∧x.i=(p n).1∧x.k=(p n).2∧g n=some (x.cost,0):=fun hx=>by obtain⟨n,h1,h2⟩:=ih hx;exact⟨n,oo,h2⟩
  rw[fC]at h;split at h
  ·exact up h
  split at h
  ·exact up h
  rename_i c e hg;split at h
  ·rename_i he;rcases List.mem_append.1 h with h|h
   ·exact up h
   ·rw[List.mem_singleton]at h;subst h;exact⟨N,oo,rfl,rfl,by rw[hg,he]⟩
  ·exact up h
end
theorem aT5{d:List Int}{m c:Int}(h:qA d m 1 2 10=(c,0)):0≤c∧c≤4611686018427387904:=by
 unfold qA at h;split at h
 ·simp at h
 split at h
 ·simp at h
 split at h
 ·simp at h
 ·rename_i h3;injection h with h1 _;have:=aK6 d.length (fA d d.length) m d d.length;omega
def bU(far:Int):Nat:=2*far.toNat+1
def pS(far:Int)(n:Nat):Int×Int:=(((n%bU far:Nat):Int)-far,((n/bU far:Nat):Int)-far)
theorem aH7{far:Int}{i j:Nat}(h:i<bU far):pS far (j*bU far+i)=((i:Int)-far,(j:Int)-far):=by
 have hp:0<bU far:=by unfold bU;omega
 unfold pS;rw[Nat.mul_comm,Nat.mul_add_mod,Nat.mod_eq_of_lt h,Nat.mul_add_div hp,Nat.div_eq_of_lt h,Nat.add_zero]
theorem aY6{far:Int}(hf:0≤far){n:Nat}(h:n<bU far*bU far):(-far≤(pS far n).1∧(pS far n).1≤far)∧(-far≤(pS far n).2∧(pS far n).2≤far):=by
 have h1:=Nat.mod_lt n (show 0<bU far by unfold bU;omega);have h2:=Nat.div_lt_of_lt_mul h;have h3:(bU far:Int)=2*far+1:=by unfold bU;push_cast;omega
 unfold pS;dsimp only;generalize n%bU far=a at *;generalize n/bU far=b at *;omega
def gS(W H:Nat)(f:List Int)(s:eK)(l:List cQ)(m:Int)(n:Nat):Option (Int×Int) :=
 aHb W H f (s.x+(pS s.far n).1*s.step) (s.y+(pS s.far n).2*s.step) l m 1 2 10
def nV(W H:Nat)(f:List Int)(s:eK)(l:List cQ)(m:Int)(n:Nat):List kR×Bool:=fC (gS W H f s l m) (pS s.far) n
def aY(W H:Nat)(f:List Int)(s:eK)(l:List cQ)(m:Int):List kR:=if mN s l=0 then (nV W H f s l m (bU s.far*bU s.far)).1 else []
theorem aUc{W H:Nat}{f:List Int}{s:eK}{l:List cQ}{m:Int}{n:Nat}{c:Int}(h:gS W H f s l m n=some (c,0)):0≤c∧c≤4611686018427387904:=by
 unfold gS aHb at h;split at h
 ·exact aT5 (Option.some.inj h)
 ·cases h
theorem aCb{W H:Nat}{f:List Int}{s:eK}{l:List cQ}{m:Int}{i:Nat}(hi:i<(aY W H f s l m).length):
  let x:=(aY W H f s l m).getD i default
  (-32≤x.i∧x.i≤32)∧(-32≤x.k∧x.k≤32)∧(0≤x.cost∧x.cost≤4611686018427387904)∧(-s.far≤x.i∧x.i≤s.far)∧(-s.far≤x.k∧x.k≤s.far):=by
 intro x;have hx:x∈aY W H f s l m:=by show (aY W H f s l m).getD i default∈_;rw[List.getD_eq_getElem?_getD,List.getElem?_eq_getElem hi];exact List.getElem_mem ..
 clear_value x
 unfold aY at hx;split at hx
 ·rename_i hc;obtain⟨hs,-⟩:=aCo hc;obtain⟨hs1,-⟩:=hs;obtain⟨n,hn,h1,h2,h3⟩:=aEz _ _ hx;have h4:=aY6 hs1.1 hn;have h5:=aUc h3;omega
 ·simp at hx
theorem aEy(W H:Nat)(f:List Int)(s:eK)(l:List cQ)(m:Int):(aY W H f s l m).length≤4225:=by
 unfold aY;split
 ·rename_i hc;obtain⟨⟨h1,-⟩,-⟩:=aCo hc;have:=aJ2 (g:=gS W H f s l m) (p:=pS s.far) (bU s.far*bU s.far);have h2:bU s.far≤65:=by unfold bU;omega
  have:=Nat.mul_le_mul h2 h2;unfold nV;omega
 ·simp
instance (i:Nat):uY ((i:Nat):Int) i:=⟨rfl⟩
section
variable {P:Program} (w:World)
end
attribute [local irreducible] OJ J bO Code.wpIn wpListIn Oper.wpIn bodyPost CallsIn aF
instance (priority:=2000) negW_any(z:Int):CV prog 203 [.agg (cH z).toArray] (.agg (cH (-z)).toArray) (-85070591730234615865843651857942052864≤z∧z≤85070591730234615865843651857942052864):=⟨fun hc w=>by refine aJ func203 rfl ntmps203 rfl ⟨aE,.nil⟩ (fun n=>?_);simp only[aG];refine jG;refine bI;refine⟨aIn ?_ oo,rfl⟩;rw[IntKind.wrap_u64,IntKind.wrap_u64,IntKind.wrap_u64,IntKind.wrap_i64];split<;>omega⟩
theorem aIy{a:Int}(h:aP .i64 a):0≤bP a∧bP a≤9223372036854775808:=by have h1 : -9223372036854775808≤a∧a≤9223372036854775807:=h;unfold bP;split<;>omega
instance (priority:=2000) mulW_any(a b:Int):CV prog 147 [.int .i64 a,.int .i64 b] (.agg (cH (a*b)).toArray) (aP .i64 a∧aP .i64 b):=⟨fun hc w=>by
 have h1:=aIz a b;have ha:=aIy hc.1;have hb:=aIy hc.2;have h2:0≤bP a*bP b∧bP a*bP b≤85070591730234615865843651857942052864:=by have:=fU 9223372036854775808 9223372036854775808 (a:=bP a) (b:=bP b) oo oo;have:=Int.mul_nonneg ha.1 hb.1;omega
 have hc1:=hc.1;have hc2:=hc.2;refine aJ func147 rfl ntmps147 rfl ⟨aE,.nil⟩ (fun n=>?_);simp only[aG];refine jG
 ·rename_i h;refine bI;refine⟨?_,rfl⟩;rw[h1,aJ0 a b (fun e=>h (by rw[e]))];rfl
 ·rename_i h;refine bI;refine⟨?_,rfl⟩;rw[h1,aJ1 a b (.inl (propext (Classical.not_not.1 h)))];rfl⟩
end Go.Proofs.YtpmkboockihdbaaGreat
namespace Go.Proofs.YtpmkboockihdbaaGreat
open Go.RowKit _root_.Go.Proofs.Tryz
instance {P:Program}{w0:World}{W:Nat→Prop}{H:List HE}(x y u v:Operand)(ts:Array TypeId)(k:IntKind)(p q r s:Int):MS P w0 W H (.call ⟨.builtin .max,#[x,y,u,v],ts⟩) [.int k p,.int k q,.int k r,.int k s] (.int k (max (max (max p q) r) s)) True:=⟨fun _ _ _ _ _ _ _ _ _ _ _ _ _ _ h1 h2 h3=>by
 refine dS aE rfl h2 (fun a w ha _=>?_) h3;have hm:∀p q:Int,(if p<q then q else p)=max p q:=fun p q=>by omega
 have he:=zG ha (show vals _ [x,y,u,v]=some _ from h1);simp only[List.map_cons,List.map_nil,List.cons.injEq,and_true]at he;obtain⟨e1,e2,e3,e4⟩:=he;simp[execOp,e1,e2,e3,e4,resolve,invoke,builtin,Builtin.max_,Builtin.max2,hm]⟩
attribute [local irreducible] OJ J bO Code.wpIn wpListIn Oper.wpIn bodyPost CallsIn aF
theorem aSp{s:eK}{l:List cQ}(h:¬vB s):mN s l=2:=if_pos h
theorem aSq{s:eK}{l:List cQ}(h:vB s)(h2:l.length=0∨64<l.length):mN s l=5:=by unfold mN;rw[if_neg (not_not_intro h),if_pos h2]
theorem aSr{s:eK}{l:List cQ}(h:vB s)(h2:¬(l.length=0∨64<l.length))(h3:vD l l.length=true):mN s l=1:=by unfold mN;rw[if_neg (not_not_intro h),if_neg h2,if_pos h3]
theorem aSs{s:eK}{l:List cQ}(h:vB s)(h2:¬(l.length=0∨64<l.length))(h3:vD l l.length=false):mN s l=0:=by unfold mN;rw[if_neg (not_not_intro h),if_neg h2,h3];rfl
theorem aM9(s:eK)(Al:Option Addr)(cl:Nat)(l:List cQ)(w:World)(hr:bF w (aV []) Al l.length cl 3 (aR cD l))(hm:l.length≤1000000):
  aF prog 231 [.agg (mQ s).toArray,.slice Al l.length cl] [] w (fun v S'=>v=.int .i64 (mN s l)∧S'=[]):=by
 refine aJ func231 rfl ntmps231 rfl ⟨aE,.nil⟩ (fun n=>?_);simp only[aG];by_cases hs:vB s
 ·have hs':=hs;obtain⟨⟨s1,s2⟩,⟨s3,s4⟩,⟨s5,s6⟩,⟨s7,s8⟩⟩:=hs';by_cases h2:l.length=0∨64<l.length
  ·rw[aSq hs h2];refine aB;all_goals exact aK rfl rfl (.nil _) ⟨rfl,rfl⟩
  ·have h3:=aSr (s:=s) (l:=l) hs h2;have h4:=aSs (s:=s) (l:=l) hs h2;obtain⟨bL,oL,rfl,hL⟩:=hr.at_ (by omega:0<l.length);refine aB;rename_i b2 _ _ _ _ _ _ _ _ _ _;refine bT (X:=Nat) (fun i=>i≤l.length∧∀j,j<i→sL (l.getD j default)) (fun i=>[(2,.pointer (some ⟨b2,0,none⟩)),(57,.slice (some ⟨bL,oL,none⟩) l.length cl),(58,.int .i64 l.length),(59,.int .i64 i)])
    (fun i=>[.blk b2 300 (mQ s)]) (fun i=>l.length-i) 0 ⟨oo,fun j hj=>by omega⟩ ⟨rfl,rfl,rfl,rfl,trivial⟩ aA.au ?_
   rintro i ⟨hi,hj⟩;rcases Nat.lt_or_ge i l.length with h|h
   ·have hb:¬sL (l.getD i default)→vD l l.length=true:=aQx h;have hsx:sL (l.getD i default)↔((-4194304≤(l.getD i default).z∧(l.getD i default).z≤4194304)∧(-1073741824≤(l.getD i default).dx∧(l.getD i default).dx≤1073741824)∧(-1073741824≤(l.getD i default).dy∧(l.getD i default).dy≤1073741824)):=Iff.rfl;refine aB;all_goals first
     | (refine aN (i + 1) ⟨h, fun j hjj => ?_⟩ (by show l.length - (i + 1) < l.length - i; omega) ⟨rfl, rfl, rfl, by simp [aH], trivial⟩ aA.au
        rcases Nat.lt_or_ge j i with h1 | h1
        · exact hj j h1
        · rw [show j = i by omega, hsx]; omega)
     | (rw[h3 (hb (by rw[hsx];omega))];exact aK rfl rfl (.nil _) ⟨rfl,rfl⟩)
   ·obtain rfl:i=l.length:=oo;rw[h4 (aCe.2 hj)];refine aB;exact aK rfl rfl (.nil _) ⟨rfl,rfl⟩
 ·rw[aSp hs];have hs':¬((0≤s.far∧s.far≤32)∧(1≤s.step∧s.step≤4096)∧(-1099511627776≤s.x∧s.x≤1099511627776)∧(-1099511627776≤s.y∧s.y≤1099511627776)):=hs;refine aB;all_goals first
   | exact aK rfl rfl (.nil _) ⟨rfl,rfl⟩
   | (exfalso;omega)
theorem aT1{d:List Int}{m:Int}(h:64<d.length∨m<0∨3<m):qA d m 1 2 10=(0,1):=if_pos h
theorem aT2{d:List Int}{m:Int}(h:¬(64<d.length∨m<0∨3<m))(hb:wN d d.length=true):qA d m 1 2 10=(0,2):=by unfold qA;rw[if_neg h,if_pos hb]
theorem aT3{d:List Int}{m:Int}(h:¬(64<d.length∨m<0∨3<m))(hb:tR d d.length)(hc:4611686018427387904<lC d.length (fA d d.length) m d d.length):qA d m 1 2 10=(0,10):=by unfold qA;rw[if_neg h,aAo.2 hb,if_neg od,if_pos hc]
theorem aT4{d:List Int}{m:Int}(h:¬(64<d.length∨m<0∨3<m))(hb:tR d d.length)(hc:¬4611686018427387904<lC d.length (fA d d.length) m d d.length):qA d m 1 2 10=(lC d.length (fA d d.length) m d d.length,0):=by unfold qA;rw[if_neg h,aAo.2 hb,if_neg od,if_neg hc]
theorem aQy{d:List Int}{i n:Nat}(hi:i<n)(h:d.getD i 0 < -8388608∨8388608<d.getD i 0):wN d n=true:=by
 cases hb:wN d n with
 | true=>rfl
 | false=>have:=aAo.1 hb i hi;omega
theorem tR.succ{d:List Int}{i:Nat}(h:tR d i)(h2 : -8388608≤d.getD i 0∧d.getD i 0≤8388608):tR d (i+1):=fun j hj=>by
 rcases Nat.lt_or_ge j i with h1|h1
 ·exact h j h1
 ·rw[show j=i by omega];exact h2
theorem bBa{y:Int}(h : -1073741824≤y∧y≤1073741824):0≤y*y∧y*y≤1152921504606846976:=by
 have:=fU 1073741824 1073741824 (a:=y) (b:=y) oo oo;refine⟨?_,oo⟩;rcases Int.lt_or_le y 0 with h|h
 ·exact Int.le_of_lt (Int.mul_pos_of_neg_of_neg h h)
 ·exact Int.mul_nonneg h h
theorem aFf{d:List Int}{m:Int}(hm:m=0∨m=2)(hl:d.length≤64)(h:tR d d.length):∀i,i≤d.length→lC d.length (fA d d.length) m d i≤1073741824*(i:Int)
 | 0,_=>by simp[lC]
 | i+1,hi=>by
  have h1:=aFf hm hl h i oo;have h2:=aKi (m:=m) hl h (show i<d.length by omega);rw[lC];have:pU m (vL d.length (fA d d.length) m (d.getD i 0))≤1073741824:=by unfold pU;rw[if_pos hm];split<;>omega
  omega
theorem aWm(A:Option Addr)(c:Nat)(d:List Int)(m:Int)(w:World)(hr:bF w (aV []) A d.length c 1 (aC .i64 d))(hm:d.length≤1000000):
  aF prog 270 [.slice A d.length c,.int .i64 m] [] w (fun v S'=>v=.tuple #[.int .i64 (qA d m 1 2 10).1,.int .i64 (qA d m 1 2 10).2]∧S'=[]):=by
 refine aJ func270 rfl ntmps270 rfl ⟨aE,.nil⟩ (fun n=>?_);simp only[aG];by_cases h0:64<d.length∨m<0∨3<m
 ·rw[aT1 h0];refine aB;all_goals first
   | exact cM rfl rfl rfl (.nil _) ⟨rfl,rfl⟩
   | (exfalso;omega)
 ·have f2:=aT2 h0;have f3:=aT3 h0;have f4:=aT4 h0;refine aB;refine bT (X:=Nat) (fun i=>i≤d.length∧tR d i) (fun i=>[(0,.slice A d.length c),(1,.int .i64 m),(6,.int .i64 d.length),(7,.int .i64 (fA d i)),(27,.slice A d.length c),(28,.int .i64 d.length),(29,.int .i64 i)])
   (fun i=>[]) (fun i=>d.length-i) 0 ⟨oo,fun j hj=>by omega⟩ ⟨rfl,rfl,rfl,rfl,rfl,rfl,rfl,trivial⟩ aA.au ?_
  rintro i ⟨hi,hok⟩;have hsi:=aI4 hok;rcases Nat.lt_or_ge i d.length with h|h
  ·obtain⟨bL,oL,rfl,hL⟩:=hr.at_ (by omega:0<d.length);have hy:=aQy (d:=d) (n:=d.length) h;refine aB
   ·rw[f2 (hy oo)];exact cM rfl rfl rfl (.nil _) ⟨rfl,rfl⟩
   ·rw[f2 (hy oo)];exact cM rfl rfl rfl (.nil _) ⟨rfl,rfl⟩
   ·exact aN (i+1) ⟨h,hok.succ oo⟩ (by show d.length-(i+1)<d.length-i;omega) ⟨rfl,rfl,rfl,rfl,rfl,rfl,by simp[aH],trivial⟩ aA.au
  ·obtain rfl:i=d.length:=oo;have hb:wN d d.length=false:=aAo.2 hok;have hlin:=aFf (d:=d) (m:=m);refine aB;refine bT (X:=Nat) (fun i=>i≤d.length∧lC d.length (fA d d.length) m d i≤4611686018427387904) (fun i=>[(1,.int .i64 m),(6,.int .i64 d.length),(7,.int .i64 (fA d d.length)),(10,.int .i64 (lC d.length (fA d d.length) m d i)),(43,.slice A d.length c),(44,.int .i64 d.length),(45,.int .i64 i)])
    (fun i=>[]) (fun i=>d.length-i) 0 ⟨oo,by show (0:Int)≤_;omega⟩ ⟨rfl,rfl,rfl,rfl,rfl,rfl,rfl,trivial⟩ aA.au ?_
   rintro i ⟨hi,hci⟩;have hnn:=aK6 d.length (fA d d.length) m d i;rcases Nat.lt_or_ge i d.length with h|h
   ·obtain⟨bL,oL,rfl,hL⟩:=hr.at_ (by omega:0<d.length);have hx:=hok i h;have hd:=aKi (m:=m) oo hok h;have hst:lC d.length (fA d d.length) m d (i+1)=lC d.length (fA d d.length) m d i+pU m (vL d.length (fA d d.length) m (d.getD i 0)):=rfl;have hmono:=aK4 (n:=d.length) (s:=fA d d.length) (m:=m) (d:=d) (show i+1≤d.length from h);have hl1:m=0∨m=2→lC d.length (fA d d.length) m d (i+1)≤4611686018427387904:=fun h2=>by have:=aFf h2 oo hok (i+1) h;omega
    have hnx:=fU 64 8388608 (a:=(d.length:Int)) (b:=d.getD i 0) oo oo;generalize hcI:lC d.length (fA d d.length) m d i=cI at *;generalize hcJ:lC d.length (fA d d.length) m d (i+1)=cJ at *;have hsq:=bBa hd;unfold vL at hd hst hsq;obtain rfl|rfl|rfl|rfl:m=0∨m=1∨m=2∨m=3:=oo
    ·rw[if_neg od]at hd hst hsq;have hl2:=hl1 oo;have ht:pU 0 (d.getD i 0)=max (d.getD i 0) (-(d.getD i 0)):=by unfold pU;rw[if_pos od];split<;>omega
     rw[ht]at hst;refine aB;all_goals exact aN (i+1) ⟨h,by rw[hcJ];omega⟩ (by show d.length-(i+1)<d.length-i;omega) ⟨rfl,rfl,rfl,by simp only[aH,List.lookup,Nat.beq];rw[hcJ,hst],rfl,rfl,by simp[aH],trivial⟩ aA.au
    ·rw[if_neg od]at hd hst hsq;have ht:pU 1 (d.getD i 0)=d.getD i 0*d.getD i 0:=by unfold pU;rw[if_neg od]
     rw[ht]at hst;have iM:CV prog 147 [.int .i64 (d.getD i 0),.int .i64 (d.getD i 0)] (.agg #[.int .i64 0,.int .u64 (d.getD i 0*d.getD i 0)]) True:=⟨fun _ w=>by have:=(mulW_any (d.getD i 0) (d.getD i 0)).h ⟨by show -9223372036854775808≤_∧_≤9223372036854775807;omega,by show -9223372036854775808≤_∧_≤9223372036854775807;omega⟩ w;unfold cH at this;rw[show d.getD i 0*d.getD i 0/18446744073709551616=0 by omega,show d.getD i 0*d.getD i 0%18446744073709551616=d.getD i 0*d.getD i 0 by omega]at this;exact this⟩;generalize d.getD i 0*d.getD i 0=q at *;refine aB
     ·rw[f3 hok oo];exact cM rfl rfl rfl (.nil _) ⟨rfl,rfl⟩
     ·exact aN (i+1) ⟨h,by rw[hcJ];omega⟩ (by show d.length-(i+1)<d.length-i;omega) ⟨rfl,rfl,rfl,by simp only[aH,List.lookup,Nat.beq];rw[hcJ,hst],rfl,rfl,by simp[aH],trivial⟩ aA.au
    ·rw[if_pos od]at hd hst hsq;have hl2:=hl1 oo;have ht:pU 2 ((d.length:Int)*d.getD i 0-fA d d.length)=max ((d.length:Int)*d.getD i 0-fA d d.length) (-((d.length:Int)*d.getD i 0-fA d d.length)):=by unfold pU;rw[if_pos od];split<;>omega
     rw[ht]at hst;refine aB;all_goals exact aN (i+1) ⟨h,by rw[hcJ];omega⟩ (by show d.length-(i+1)<d.length-i;omega) ⟨rfl,rfl,rfl,by simp only[aH,List.lookup,Nat.beq];rw[hcJ,hst],rfl,rfl,by simp[aH],trivial⟩ aA.au
    ·rw[if_pos od]at hd hst hsq;have ht:pU 3 ((d.length:Int)*d.getD i 0-fA d d.length)=((d.length:Int)*d.getD i 0-fA d d.length)*((d.length:Int)*d.getD i 0-fA d d.length):=by unfold pU;rw[if_neg od]
     rw[ht]at hst;have iM:CV prog 147 [.int .i64 ((d.length:Int)*d.getD i 0-fA d d.length),.int .i64 ((d.length:Int)*d.getD i 0-fA d d.length)] (.agg #[.int .i64 0,.int .u64 (((d.length:Int)*d.getD i 0-fA d d.length)*((d.length:Int)*d.getD i 0-fA d d.length))]) True:=⟨fun _ w=>by generalize (d.length:Int)*d.getD i 0-fA d d.length=y at *;have:=(mulW_any y y).h ⟨by show -9223372036854775808≤_∧_≤9223372036854775807;omega,by show -9223372036854775808≤_∧_≤9223372036854775807;omega⟩ w;unfold cH at this;rw[show y*y/18446744073709551616=0 by omega,show y*y%18446744073709551616=y*y by omega]at this;exact this⟩;generalize ((d.length:Int)*d.getD i 0-fA d d.length)*((d.length:Int)*d.getD i 0-fA d d.length)=q at *;refine aB
     ·rw[f3 hok oo];exact cM rfl rfl rfl (.nil _) ⟨rfl,rfl⟩
     ·exact aN (i+1) ⟨h,by rw[hcJ];omega⟩ (by show d.length-(i+1)<d.length-i;omega) ⟨rfl,rfl,rfl,by simp only[aH,List.lookup,Nat.beq];rw[hcJ,hst],rfl,rfl,by simp[aH],trivial⟩ aA.au
   ·obtain rfl:i=d.length:=oo;rw[f4 hok oo];refine aB;exact cM rfl rfl rfl (.nil _) ⟨rfl,rfl⟩
theorem aEe{A A' B B':Int}(h1:A=A')(h2:B=B'):tP [.int .i64 A,.int .i64 B]=Value.tuple #[.int .i64 A',.int .i64 B']:=by subst h1 h2;rfl
