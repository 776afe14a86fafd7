import Derived.RangeFuncRecord
import Derived.ChangeKeysEq
import Derived.Test.YtbhchphfmhmabaaGreatP20
set_option maxHeartbeats 512000000
set_option maxRecDepth 4000
set_option linter.unusedVariables false
set_option linter.unusedSimpArgs false
namespace Go.Proofs.YtbhchphfmhmabaaGreat
open Go.RowKit _root_.Go.Proofs.Tryz
theorem aNt{H S R:List HE}(y:HE)(h:aC H S R):aC (y::H) S (y::R):=by
 induction h with
 | nil H=>exact .nil _
 | cons h _ ih=>exact .cons (.there y h) ih
section
variable {n:Nat} {P:Program} {N:Nat} {ds:List Deferred} {w0:World} {W:Nat→Prop} {σ:List (Nat×Value)} {H R:List HE} {Q:Exit→Act→World→Prop}
end
structure cK where
 dx:Int
 dy:Int
 z:Int
deriving Inhabited
def sO(W H:Nat)(f:List Int)(X Y:Int)(l:List cK):Nat→Bool
 | 0=>true
 | i+1=>sO W H f X Y l i&&jK W H f (X+(l.getD i default).dx) (Y+(l.getD i default).dy)==0
def mB(W H:Nat)(f:List Int)(X Y:Int)(l:List cK):Nat→List Int
 | 0=>[]
 | i+1=>mB W H f X Y l i++[oV W H f (X+(l.getD i default).dx) (Y+(l.getD i default).dy)-(l.getD i default).z]
theorem aEf(W H:Nat)(f:List Int)(X Y:Int)(l:List cK):∀i,(mB W H f X Y l i).length=i
 | 0=>rfl
 | i+1=>by rw[mB,List.length_append,aEf W H f X Y l i];rfl
structure jW where
 i:Int
 k:Int
 cost:Int
deriving Inhabited
def aGk(W H:Nat)(f:List Int)(X Y:Int)(l:List cK)(m eA eR eS:Int):Option (Int×Int) :=
 if sO W H f X Y l l.length=true then some (oT (mB W H f X Y l l.length) m eA eR eS)else none
def eK(g:Nat→Option (Int×Int))(p:Nat→Int×Int):Nat→List jW×Bool
 | 0=>([],false)
 | n+1=>if (eK g p n).2=true then eK g p n else
  match g n with
  | none=>eK g p n
  | some (c,e)=>if e=0 then ((eK g p n).1++[⟨(p n).1,(p n).2,c⟩],false)else ((eK g p n).1,true)
def oC(l:List jW):Nat→Option Nat
 | 0=>none
 | i+1=>match oC l i with
  | none=>some i
  | some b=>if (l.getD i default).cost<(l.getD b default).cost then some i else some b
def aF8(a b:jW)(away:Int):Bool:=decide (away<max (max (max (a.i-b.i) (b.i-a.i)) (a.k-b.k)) (b.k-a.k))
def nA(l:List jW)(b:jW)(away:Int):Nat→Int
 | 0=>-1
 | i+1=>if aF8 (l.getD i default) b away=true∧(nA l b away i<0∨(l.getD i default).cost<nA l b away i)then (l.getD i default).cost else nA l b away i
theorem aBt{l:List jW}: ∀{n b:Nat},oC l n=some b→b<n
 | 0,b,h=>by simp[oC]at h
 | n+1,b,h=>by
  rw[oC]at h;split at h
  ·simp at h;omega
  ·rename_i c hc;have:=aBt hc;split at h<;>simp at h<;>omega
theorem aIq{l:List jW}{n:Nat}:oC l n=none↔n=0:=by
 cases n with
 | zero=>simp[oC]
 | succ n =>
  rw[oC];split
  ·simp
  ·split<;>simp
def eW(l:List jW):Nat→jW
 | 0=>⟨0,0,-1⟩
 | i+1=>if (eW l i).cost<0∨(l.getD i default).cost<(eW l i).cost then l.getD i default else eW l i
theorem aEq{l:List jW}(h:∀i,i<l.length→0≤(l.getD i default).cost):∀{n:Nat},n≤l.length→(oC l n=none→eW l n=⟨0,0,-1⟩)∧∀b,oC l n=some b→eW l n=l.getD b default
 | 0,_=>⟨fun _=>rfl,fun b q=>by simp[oC]at q⟩
 | n+1,hn=>by
  obtain⟨h1,h2⟩:=aEq h (n:=n) oo;refine⟨fun q=>absurd (aIq.1 q) oo,fun b q=>?_⟩;rw[oC]at q;rw[eW];cases hb:oC l n with
  | none =>
   rw[hb]at q;simp only[Option.some.injEq]at q;subst q;rw[h1 hb,if_pos (.inl od)]
  | some c =>
   rw[hb]at q;have hc:=aBt hb;have hc0:=h c oo;rw[h2 c hb];simp only at q;split at q
   ·rename_i q1;simp only[Option.some.injEq]at q;subst q;rw[if_pos (.inr q1)]
   ·rename_i q1;simp only[Option.some.injEq]at q;subst q;rw[if_neg oo]
theorem aKk{W H:Nat}{f:List Int}(hf:fD f)(X Y:Int): -1048576≤oV W H f X Y∧oV W H f X Y≤1048576:=by
 unfold oV;split
 ·obtain⟨a,b,c,d,e,ha,hb,hc,hd⟩:=aK7 hf (W:=W) (H:=H) X Y;rw[e];simp only[exL];obtain⟨h1,h2,h3,h4,h5,h6⟩:=aF6 (fx:=X%256) (fy:=Y%256) ⟨ha,hb,hc,hd⟩ oo oo;have g1:=Int.mul_le_mul_of_nonneg_right (show a*(256-X%256)+b*(X%256)≤8388608 from by have:=Int.mul_le_mul_of_nonneg_right ha.2 (show 0≤256-X%256 by omega);have:=Int.mul_le_mul_of_nonneg_right hb.2 (show 0≤X%256 by omega);omega) (show 0≤256-Y%256 by omega);have g2:=Int.mul_le_mul_of_nonneg_right (show c*(256-X%256)+d*(X%256)≤8388608 from by have:=Int.mul_le_mul_of_nonneg_right hc.2 (show 0≤256-X%256 by omega);have:=Int.mul_le_mul_of_nonneg_right hd.2 (show 0≤X%256 by omega);omega) (show 0≤Y%256 by omega);have g3:=Int.mul_le_mul_of_nonneg_right (show -8388608≤a*(256-X%256)+b*(X%256)from by have:=Int.mul_le_mul_of_nonneg_right ha.1 (show 0≤256-X%256 by omega);have:=Int.mul_le_mul_of_nonneg_right hb.1 (show 0≤X%256 by omega);omega) (show 0≤256-Y%256 by omega);have g4:=Int.mul_le_mul_of_nonneg_right (show -8388608≤c*(256-X%256)+d*(X%256)from by have:=Int.mul_le_mul_of_nonneg_right hc.1 (show 0≤256-X%256 by omega);have:=Int.mul_le_mul_of_nonneg_right hd.1 (show 0≤X%256 by omega);omega) (show 0≤Y%256 by omega);unfold zA;omega
 ·omega
abbrev bV:cK→List Value:=fun s=>[.int .i64 s.dx,.int .i64 s.dy,.int .i64 s.z]
abbrev gN:jW→List Value:=fun s=>[.int .i64 s.i,.int .i64 s.k,.int .i64 s.cost]
instance:oN bV 3:=⟨fun _=>rfl,od⟩
structure dV where
 x:Int
 y:Int
 far:Int
 step:Int
@[reducible] def lU(s:dV):List Value:=[.int .i64 s.x,.int .i64 s.y,.int .i64 s.far,.int .i64 s.step]
def rN(s:cK):Prop:=(-4194304≤s.z∧s.z≤4194304)∧(-1073741824≤s.dx∧s.dx≤1073741824)∧(-1073741824≤s.dy∧s.dy≤1073741824)
instance (s:cK):Decidable (rN s):=by unfold rN;infer_instance
def uJ(l:List cK):Nat→Bool
 | 0=>false
 | i+1=>uJ l i||!decide (rN (l.getD i default))
theorem aBp{l:List cK}: ∀{i:Nat},uJ l i=false↔∀j,j<i→rN (l.getD j default)
 | 0=>⟨fun _ j hj=>by omega,fun _=>rfl⟩
 | i+1=>by
  have ih:=aBp (l:=l) (i:=i);rw[uJ,Bool.or_eq_false_iff,ih,Bool.not_eq_false',decide_eq_true_iff];constructor
  ·rintro⟨h1,h2⟩ j hj;rcases Nat.lt_or_ge j i with h|h
   ·exact h1 j h
   ·obtain rfl:j=i:=oo;exact h2
  ·intro h;exact⟨fun j hj=>h j oo,h i oo⟩
theorem aQ7{l:List cK}{i n:Nat}(hi:i<n)(h:¬rN (l.getD i default)):uJ l n=true:=by
 cases hb:uJ l n with
 | true=>rfl
 | false=>exact absurd (aBp.1 hb i hi) h
def uH(s:dV):Prop:=(0≤s.far∧s.far≤32)∧(1≤s.step∧s.step≤4096)∧(-1099511627776≤s.x∧s.x≤1099511627776)∧(-1099511627776≤s.y∧s.y≤1099511627776)
instance (s:dV):Decidable (uH s):=by unfold uH;infer_instance
def lP(s:dV)(l:List cK):Int:=if ¬uH s then 2 else if l.length=0∨64<l.length then 5 else if uJ l l.length=true then 1 else 0
theorem aC1{s:dV}{l:List cK}(h:lP s l=0):uH s∧(0<l.length∧l.length≤64)∧∀j,j<l.length→rN (l.getD j default):=by
 unfold lP at h;split at h
 ·cases h
 rename_i h1;split at h
 ·cases h
 rename_i h2;split at h
 ·cases h
 rename_i h3;exact⟨Classical.not_not.1 h1,oo,aBp.1 (by simpa using h3)⟩
section
variable {g:Nat→Option (Int×Int)} {p:Nat→Int×Int}
theorem aIe{n:Nat}(h:(eK g p n).2=true):∀k,eK g p (n+k)=eK g p n
 | 0=>rfl
 | k+1=>by have ih:=aIe h k;show eK g p (n+k+1)=_;rw[eK,ih,if_pos h]
theorem aPt{n:Nat}(h:(eK g p n).2=false)(hg:g n=none):eK g p (n+1)=eK g p n:=by rw[eK,if_neg (by rw[h];decide),hg]
theorem aId{n:Nat}{c:Int}(h:(eK g p n).2=false)(hg:g n=some (c,0)):eK g p (n+1)=((eK g p n).1++[⟨(p n).1,(p n).2,c⟩],false):=by rw[eK,if_neg (by rw[h];decide),hg];rfl
theorem aPs{n:Nat}{c e:Int}(h:(eK g p n).2=false)(hg:g n=some (c,e))(he:e≠0):eK g p (n+1)=((eK g p n).1,true):=by rw[eK,if_neg (by rw[h];decide),hg];simp[he]
theorem aIc(n:Nat):∀k,∃r,(eK g p (n+k)).1=(eK g p n).1++r
 | 0=>⟨[],aE⟩
 | k+1=>by
  obtain⟨r,hr⟩:=aIc n k;show ∃r,(eK g p (n+k+1)).1=_;rw[eK];split
  ·exact⟨r,hr⟩
  split
  ·exact⟨r,hr⟩
  split
  ·exact⟨r++[⟨(p (n+k)).1,(p (n+k)).2,_⟩],by rw[hr,List.append_assoc]⟩
  ·exact⟨r,hr⟩
theorem aIb:∀n,(eK g p n).1.length≤n
 | 0=>Nat.le_refl _
 | n+1=>by
  have ih:=aIb n;rw[eK];split
  ·omega
  split
  ·omega
  split
  ·simp;omega
  ·show (eK g p n).1.length≤n+1;omega
theorem aPr{n N:Nat}{c:Int}(hn:n<N)(h:(eK g p n).2=false)(hg:g n=some (c,0)):(eK g p N).1.getD (eK g p n).1.length default=⟨(p n).1,(p n).2,c⟩∧(eK g p n).1.length<(eK g p N).1.length:=by
 obtain⟨r,hr⟩:=aIc (g:=g) (p:=p) (n+1) (N-(n+1));rw[show n+1+(N-(n+1))=N by omega,aId h hg]at hr;rw[hr];constructor
 ·rw[List.getD_eq_getElem?_getD,List.getElem?_append_left aE,List.getElem?_append_right (Nat.le_refl _),Nat.sub_self];rfl
 ·simp
theorem aEe:∀(N:Nat) (x:jW),x∈(eK g p N).1→∃n,n<N∧x.i=(p n).1∧x.k=(p n).2∧g n=some (x.cost,0)
 | 0,x,h=>by simp[eK]at h
 | N+1,x,h=>by
  have ih:=aEe N x;have up:x∈(eK g p N).1→∃n,n<N+1∧x.i=(p n).1∧x.k=(p n).2∧g n=some (x.cost,0):=fun hx=>by obtain⟨n,h1,h2⟩:=ih hx;exact⟨n,oo,h2⟩
  rw[eK]at h;split at h
  ·exact up h
  split at h
  ·exact up h
  rename_i c e hg;split at h
  ·rename_i he;rcases List.mem_append.1 h with h|h
   ·exact up h
   ·rw[List.mem_singleton]at h;subst h;exact⟨N,oo,rfl,rfl,by rw[hg,he]⟩
  ·exact up h
end
theorem aSi{d:List Int}{m c:Int}(h:oT d m 1 2 10=(c,0)):0≤c∧c≤4611686018427387904:=by
 unfold oT at h;split at h
 ·simp at h
 split at h
 ·simp at h
 split at h
 ·simp at h
 ·rename_i h3;injection h with h1 _;have:=aJg d.length (eG d d.length) m d d.length;omega
def bR(far:Int):Nat:=2*far.toNat+1
def pS(far:Int)(n:Nat):Int×Int:=(((n%bR far:Nat):Int)-far,((n/bR far:Nat):Int)-far)
theorem aGg{far:Int}{i j:Nat}(h:i<bR far):pS far (j*bR far+i)=((i:Int)-far,(j:Int)-far):=by
 have hp:0<bR far:=by unfold bR;omega
 unfold pS;rw[Nat.mul_comm,Nat.mul_add_mod,Nat.mod_eq_of_lt h,Nat.mul_add_div hp,Nat.div_eq_of_lt h,Nat.add_zero]
theorem aXs{far:Int}(hf:0≤far){n:Nat}(h:n<bR far*bR far):(-far≤(pS far n).1∧(pS far n).1≤far)∧(-far≤(pS far n).2∧(pS far n).2≤far):=by
 have h1:=Nat.mod_lt n (show 0<bR far by unfold bR;omega);have h2:=Nat.div_lt_of_lt_mul h;have h3:(bR far:Int)=2*far+1:=by unfold bR;push_cast;omega
 unfold pS;dsimp only;generalize n%bR far=a at *;generalize n/bR far=b at *;omega
def gS(W H:Nat)(f:List Int)(s:dV)(l:List cK)(m:Int)(n:Nat):Option (Int×Int) :=
 aGk W H f (s.x+(pS s.far n).1*s.step) (s.y+(pS s.far n).2*s.step) l m 1 2 10
def mQ(W H:Nat)(f:List Int)(s:dV)(l:List cK)(m:Int)(n:Nat):List jW×Bool:=eK (gS W H f s l m) (pS s.far) n
def aT(W H:Nat)(f:List Int)(s:dV)(l:List cK)(m:Int):List jW:=if lP s l=0 then (mQ W H f s l m (bR s.far*bR s.far)).1 else []
theorem aTq{W H:Nat}{f:List Int}{s:dV}{l:List cK}{m:Int}{n:Nat}{c:Int}(h:gS W H f s l m n=some (c,0)):0≤c∧c≤4611686018427387904:=by
 unfold gS aGk at h;split at h
 ·exact aSi (Option.some.inj h)
 ·cases h
theorem aBm{W H:Nat}{f:List Int}{s:dV}{l:List cK}{m:Int}{i:Nat}(hi:i<(aT W H f s l m).length):
  let x:=(aT W H f s l m).getD i default
  (-32≤x.i∧x.i≤32)∧(-32≤x.k∧x.k≤32)∧(0≤x.cost∧x.cost≤4611686018427387904)∧(-s.far≤x.i∧x.i≤s.far)∧(-s.far≤x.k∧x.k≤s.far):=by
 intro x;have hx:x∈aT W H f s l m:=by show (aT W H f s l m).getD i default∈_;rw[List.getD_eq_getElem?_getD,List.getElem?_eq_getElem hi];exact List.getElem_mem ..
 clear_value x
 unfold aT at hx;split at hx
 ·rename_i hc;obtain⟨hs,-⟩:=aC1 hc;obtain⟨hs1,-⟩:=hs;obtain⟨n,hn,h1,h2,h3⟩:=aEe _ _ hx;have h4:=aXs hs1.1 hn;have h5:=aTq h3;omega
 ·simp at hx
theorem aEd(W H:Nat)(f:List Int)(s:dV)(l:List cK)(m:Int):(aT W H f s l m).length≤4225:=by
 unfold aT;split
 ·rename_i hc;obtain⟨⟨h1,-⟩,-⟩:=aC1 hc;have:=aIb (g:=gS W H f s l m) (p:=pS s.far) (bR s.far*bR s.far);have h2:bR s.far≤65:=by unfold bR;omega
  have:=Nat.mul_le_mul h2 h2;unfold mQ;omega
 ·simp
instance (i:Nat):vP ((i:Nat):Int) i:=⟨rfl⟩
section
variable {P:Program} (w:World)
end
attribute [local irreducible] OJ J bM Code.wpIn wpListIn Oper.wpIn bodyPost CallsIn aF
instance (priority:=2000) negW_any(z:Int):CV prog 237 [.agg (cA z).toArray] (.agg (cA (-z)).toArray) (-85070591730234615865843651857942052864≤z∧z≤85070591730234615865843651857942052864):=⟨fun hc w=>by refine aJ func237 rfl ntmps237 rfl ⟨aE,.nil⟩ (fun n=>?_);simp only[aG];refine gR;refine bK;refine⟨aHw ?_ oo,rfl⟩;rw[IntKind.wrap_u64,IntKind.wrap_u64,IntKind.wrap_u64,IntKind.wrap_i64];split<;>omega⟩
theorem aI7{a:Int}(h:bG .i64 a):0≤bJ a∧bJ a≤9223372036854775808:=by have h1 : -9223372036854775808≤a∧a≤9223372036854775807:=h;unfold bJ;split<;>omega
instance (priority:=2000) mulW_any(a b:Int):CV prog 192 [.int .i64 a,.int .i64 b] (.agg (cA (a*b)).toArray) (bG .i64 a∧bG .i64 b):=⟨fun hc w=>by
 have h1:=aI8 a b;have ha:=aI7 hc.1;have hb:=aI7 hc.2;have h2:0≤bJ a*bJ b∧bJ a*bJ b≤85070591730234615865843651857942052864:=by have:=gY 9223372036854775808 9223372036854775808 (a:=bJ a) (b:=bJ b) oo oo;have:=Int.mul_nonneg ha.1 hb.1;omega
 have hc1:=hc.1;have hc2:=hc.2;refine aJ func192 rfl ntmps192 rfl ⟨aE,.nil⟩ (fun n=>?_);simp only[aG];refine gR
 ·rename_i h;refine bK;refine⟨?_,rfl⟩;rw[h1,aI9 a b (fun e=>h (by rw[e]))];rfl
 ·rename_i h;refine bK;refine⟨?_,rfl⟩;rw[h1,aIa a b (.inl (propext (Classical.not_not.1 h)))];rfl⟩
end Go.Proofs.YtbhchphfmhmabaaGreat
namespace Go.Proofs.YtbhchphfmhmabaaGreat
open Go.RowKit _root_.Go.Proofs.Tryz
instance {P:Program}{w0:World}{W:Nat→Prop}{H:List HE}(x y u v:Operand)(ts:Array TypeId)(k:IntKind)(p q r s:Int):MS P w0 W H (.call ⟨.builtin .max,#[x,y,u,v],ts⟩) [.int k p,.int k q,.int k r,.int k s] (.int k (max (max (max p q) r) s)) True:=⟨fun _ _ _ _ _ _ _ _ _ _ _ _ _ _ h1 h2 h3=>by
 refine dW aE rfl h2 (fun a w ha _=>?_) h3;have hm:∀p q:Int,(if p<q then q else p)=max p q:=fun p q=>by omega
 have he:=yJ ha (show vals _ [x,y,u,v]=some _ from h1);simp only[List.map_cons,List.map_nil,List.cons.injEq,and_true]at he;obtain⟨e1,e2,e3,e4⟩:=he;simp[execOp,e1,e2,e3,e4,resolve,invoke,builtin,Builtin.max_,Builtin.max2,hm]⟩
attribute [local irreducible] OJ J bM Code.wpIn wpListIn Oper.wpIn bodyPost CallsIn aF
theorem aS1{s:dV}{l:List cK}(h:¬uH s):lP s l=2:=if_pos h
theorem aS2{s:dV}{l:List cK}(h:uH s)(h2:l.length=0∨64<l.length):lP s l=5:=by unfold lP;rw[if_neg (not_not_intro h),if_pos h2]
theorem aS3{s:dV}{l:List cK}(h:uH s)(h2:¬(l.length=0∨64<l.length))(h3:uJ l l.length=true):lP s l=1:=by unfold lP;rw[if_neg (not_not_intro h),if_neg h2,if_pos h3]
theorem aS4{s:dV}{l:List cK}(h:uH s)(h2:¬(l.length=0∨64<l.length))(h3:uJ l l.length=false):lP s l=0:=by unfold lP;rw[if_neg (not_not_intro h),if_neg h2,h3];rfl
theorem aLi(s:dV)(Al:Option Addr)(cl:Nat)(l:List cK)(w:World)(hr:bP w (bB []) Al l.length cl 3 (aO bV l))(hm:l.length≤1000000):
  aF prog 193 [.agg (lU s).toArray,.slice Al l.length cl] [] w (fun v S'=>v=.int .i64 (lP s l)∧S'=[]):=by
 refine aJ func193 rfl ntmps193 rfl ⟨aE,.nil⟩ (fun n=>?_);simp only[aG];by_cases hs:uH s
 ·have hs':=hs;obtain⟨⟨s1,s2⟩,⟨s3,s4⟩,⟨s5,s6⟩,⟨s7,s8⟩⟩:=hs';by_cases h2:l.length=0∨64<l.length
  ·rw[aS2 hs h2];refine aB;all_goals exact aM rfl rfl (.nil _) ⟨rfl,rfl⟩
  ·have h3:=aS3 (s:=s) (l:=l) hs h2;have h4:=aS4 (s:=s) (l:=l) hs h2;obtain⟨bL,oL,rfl,hL⟩:=hr.at_ (by omega:0<l.length);refine aB;rename_i b2 _ _ _ _ _ _ _ _ _ _;refine cG (X:=Nat) (fun i=>i≤l.length∧∀j,j<i→rN (l.getD j default)) (fun i=>[(2,.pointer (some ⟨b2,0,none⟩)),(57,.slice (some ⟨bL,oL,none⟩) l.length cl),(58,.int .i64 l.length),(59,.int .i64 i)])
    (fun i=>[.blk b2 252 (lU s)]) (fun i=>l.length-i) 0 ⟨oo,fun j hj=>by omega⟩ ⟨rfl,rfl,rfl,rfl,trivial⟩ aA.au ?_
   rintro i ⟨hi,hj⟩;rcases Nat.lt_or_ge i l.length with h|h
   ·have hb:¬rN (l.getD i default)→uJ l l.length=true:=aQ7 h;have hsx:rN (l.getD i default)↔((-4194304≤(l.getD i default).z∧(l.getD i default).z≤4194304)∧(-1073741824≤(l.getD i default).dx∧(l.getD i default).dx≤1073741824)∧(-1073741824≤(l.getD i default).dy∧(l.getD i default).dy≤1073741824)):=Iff.rfl;refine aB;all_goals first
     | (refine aR (i + 1) ⟨h, fun j hjj => ?_⟩ (by show l.length - (i + 1) < l.length - i; omega) ⟨rfl, rfl, rfl, by simp [aI], trivial⟩ aA.au
        rcases Nat.lt_or_ge j i with h1 | h1
        · exact hj j h1
        · rw [show j = i by omega, hsx]; omega)
     | (rw[h3 (hb (by rw[hsx];omega))];exact aM rfl rfl (.nil _) ⟨rfl,rfl⟩)
   ·obtain rfl:i=l.length:=oo;rw[h4 (aBp.2 hj)];refine aB;exact aM rfl rfl (.nil _) ⟨rfl,rfl⟩
 ·rw[aS1 hs];have hs':¬((0≤s.far∧s.far≤32)∧(1≤s.step∧s.step≤4096)∧(-1099511627776≤s.x∧s.x≤1099511627776)∧(-1099511627776≤s.y∧s.y≤1099511627776)):=hs;refine aB;all_goals first
   | exact aM rfl rfl (.nil _) ⟨rfl,rfl⟩
   | (exfalso;omega)
theorem aSe{d:List Int}{m:Int}(h:64<d.length∨m<0∨3<m):oT d m 1 2 10=(0,1):=if_pos h
theorem aSf{d:List Int}{m:Int}(h:¬(64<d.length∨m<0∨3<m))(hb:vU d d.length=true):oT d m 1 2 10=(0,2):=by unfold oT;rw[if_neg h,if_pos hb]
theorem aSg{d:List Int}{m:Int}(h:¬(64<d.length∨m<0∨3<m))(hb:sY d d.length)(hc:4611686018427387904<kH d.length (eG d d.length) m d d.length):oT d m 1 2 10=(0,10):=by unfold oT;rw[if_neg h,aA7.2 hb,if_neg od,if_pos hc]
theorem aSh{d:List Int}{m:Int}(h:¬(64<d.length∨m<0∨3<m))(hb:sY d d.length)(hc:¬4611686018427387904<kH d.length (eG d d.length) m d d.length):oT d m 1 2 10=(kH d.length (eG d d.length) m d d.length,0):=by unfold oT;rw[if_neg h,aA7.2 hb,if_neg od,if_neg hc]
theorem aQ8{d:List Int}{i n:Nat}(hi:i<n)(h:d.getD i 0 < -8388608∨8388608<d.getD i 0):vU d n=true:=by
 cases hb:vU d n with
 | true=>rfl
 | false=>have:=aA7.1 hb i hi;omega
theorem sY.succ{d:List Int}{i:Nat}(h:sY d i)(h2 : -8388608≤d.getD i 0∧d.getD i 0≤8388608):sY d (i+1):=fun j hj=>by
 rcases Nat.lt_or_ge j i with h1|h1
 ·exact h j h1
 ·rw[show j=i by omega];exact h2
theorem bB2{y:Int}(h : -1073741824≤y∧y≤1073741824):0≤y*y∧y*y≤1152921504606846976:=by
 have:=gY 1073741824 1073741824 (a:=y) (b:=y) oo oo;refine⟨?_,oo⟩;rcases Int.lt_or_le y 0 with h|h
 ·exact Int.le_of_lt (Int.mul_pos_of_neg_of_neg h h)
 ·exact Int.mul_nonneg h h
theorem aEt{d:List Int}{m:Int}(hm:m=0∨m=2)(hl:d.length≤64)(h:sY d d.length):∀i,i≤d.length→kH d.length (eG d d.length) m d i≤1073741824*(i:Int)
 | 0,_=>by simp[kH]
 | i+1,hi=>by
  have h1:=aEt hm hl h i oo;have h2:=aJr (m:=m) hl h (show i<d.length by omega);rw[kH];have:oK m (uQ d.length (eG d d.length) m (d.getD i 0))≤1073741824:=by unfold oK;rw[if_pos hm];split<;>omega
  omega
theorem aW2(A:Option Addr)(c:Nat)(d:List Int)(m:Int)(w:World)(hr:bP w (bB []) A d.length c 1 (aD .i64 d))(hm:d.length≤1000000):
  aF prog 234 [.slice A d.length c,.int .i64 m] [] w (fun v S'=>v=.tuple #[.int .i64 (oT d m 1 2 10).1,.int .i64 (oT d m 1 2 10).2]∧S'=[]):=by
 refine aJ func234 rfl ntmps234 rfl ⟨aE,.nil⟩ (fun n=>?_);simp only[aG];by_cases h0:64<d.length∨m<0∨3<m
 ·rw[aSe h0];refine aB;all_goals first
   | exact cY rfl rfl rfl (.nil _) ⟨rfl,rfl⟩
   | (exfalso;omega)
 ·have f2:=aSf h0;have f3:=aSg h0;have f4:=aSh h0;refine aB;refine cG (X:=Nat) (fun i=>i≤d.length∧sY d i) (fun i=>[(0,.slice A d.length c),(1,.int .i64 m),(6,.int .i64 d.length),(7,.int .i64 (eG d i)),(27,.slice A d.length c),(28,.int .i64 d.length),(29,.int .i64 i)])
   (fun i=>[]) (fun i=>d.length-i) 0 ⟨oo,fun j hj=>by omega⟩ ⟨rfl,rfl,rfl,rfl,rfl,rfl,rfl,trivial⟩ aA.au ?_
  rintro i ⟨hi,hok⟩;have hsi:=aHf hok;rcases Nat.lt_or_ge i d.length with h|h
  ·obtain⟨bL,oL,rfl,hL⟩:=hr.at_ (by omega:0<d.length);have hy:=aQ8 (d:=d) (n:=d.length) h;refine aB
   ·rw[f2 (hy oo)];exact cY rfl rfl rfl (.nil _) ⟨rfl,rfl⟩
   ·rw[f2 (hy oo)];exact cY rfl rfl rfl (.nil _) ⟨rfl,rfl⟩
   ·exact aR (i+1) ⟨h,hok.succ oo⟩ (by show d.length-(i+1)<d.length-i;omega) ⟨rfl,rfl,rfl,rfl,rfl,rfl,by simp[aI],trivial⟩ aA.au
  ·obtain rfl:i=d.length:=oo;have hb:vU d d.length=false:=aA7.2 hok;have hlin:=aEt (d:=d) (m:=m);refine aB;refine cG (X:=Nat) (fun i=>i≤d.length∧kH d.length (eG d d.length) m d i≤4611686018427387904) (fun i=>[(1,.int .i64 m),(6,.int .i64 d.length),(7,.int .i64 (eG d d.length)),(10,.int .i64 (kH d.length (eG d d.length) m d i)),(43,.slice A d.length c),(44,.int .i64 d.length),(45,.int .i64 i)])
    (fun i=>[]) (fun i=>d.length-i) 0 ⟨oo,by show (0:Int)≤_;omega⟩ ⟨rfl,rfl,rfl,rfl,rfl,rfl,rfl,trivial⟩ aA.au ?_
   rintro i ⟨hi,hci⟩;have hnn:=aJg d.length (eG d d.length) m d i;rcases Nat.lt_or_ge i d.length with h|h
   ·obtain⟨bL,oL,rfl,hL⟩:=hr.at_ (by omega:0<d.length);have hx:=hok i h;have hd:=aJr (m:=m) oo hok h;have hst:kH d.length (eG d d.length) m d (i+1)=kH d.length (eG d d.length) m d i+oK m (uQ d.length (eG d d.length) m (d.getD i 0)):=rfl;have hmono:=aJe (n:=d.length) (s:=eG d d.length) (m:=m) (d:=d) (show i+1≤d.length from h);have hl1:m=0∨m=2→kH d.length (eG d d.length) m d (i+1)≤4611686018427387904:=fun h2=>by have:=aEt h2 oo hok (i+1) h;omega
    have hnx:=gY 64 8388608 (a:=(d.length:Int)) (b:=d.getD i 0) oo oo;generalize hcI:kH d.length (eG d d.length) m d i=cI at *;generalize hcJ:kH d.length (eG d d.length) m d (i+1)=cJ at *;have hsq:=bB2 hd;unfold uQ at hd hst hsq;obtain rfl|rfl|rfl|rfl:m=0∨m=1∨m=2∨m=3:=oo
    ·rw[if_neg od]at hd hst hsq;have hl2:=hl1 oo;have ht:oK 0 (d.getD i 0)=max (d.getD i 0) (-(d.getD i 0)):=by unfold oK;rw[if_pos od];split<;>omega
     rw[ht]at hst;refine aB;all_goals exact aR (i+1) ⟨h,by rw[hcJ];omega⟩ (by show d.length-(i+1)<d.length-i;omega) ⟨rfl,rfl,rfl,by simp only[aI,List.lookup,Nat.beq];rw[hcJ,hst],rfl,rfl,by simp[aI],trivial⟩ aA.au
    ·rw[if_neg od]at hd hst hsq;have ht:oK 1 (d.getD i 0)=d.getD i 0*d.getD i 0:=by unfold oK;rw[if_neg od]
     rw[ht]at hst;have iM:CV prog 192 [.int .i64 (d.getD i 0),.int .i64 (d.getD i 0)] (.agg #[.int .i64 0,.int .u64 (d.getD i 0*d.getD i 0)]) True:=⟨fun _ w=>by have:=(mulW_any (d.getD i 0) (d.getD i 0)).h ⟨by show -9223372036854775808≤_∧_≤9223372036854775807;omega,by show -9223372036854775808≤_∧_≤9223372036854775807;omega⟩ w;unfold cA at this;rw[show d.getD i 0*d.getD i 0/18446744073709551616=0 by omega,show d.getD i 0*d.getD i 0%18446744073709551616=d.getD i 0*d.getD i 0 by omega]at this;exact this⟩;generalize d.getD i 0*d.getD i 0=q at *;refine aB
     ·rw[f3 hok oo];exact cY rfl rfl rfl (.nil _) ⟨rfl,rfl⟩
     ·exact aR (i+1) ⟨h,by rw[hcJ];omega⟩ (by show d.length-(i+1)<d.length-i;omega) ⟨rfl,rfl,rfl,by simp only[aI,List.lookup,Nat.beq];rw[hcJ,hst],rfl,rfl,by simp[aI],trivial⟩ aA.au
    ·rw[if_pos od]at hd hst hsq;have hl2:=hl1 oo;have ht:oK 2 ((d.length:Int)*d.getD i 0-eG d d.length)=max ((d.length:Int)*d.getD i 0-eG d d.length) (-((d.length:Int)*d.getD i 0-eG d d.length)):=by unfold oK;rw[if_pos od];split<;>omega
     rw[ht]at hst;refine aB;all_goals exact aR (i+1) ⟨h,by rw[hcJ];omega⟩ (by show d.length-(i+1)<d.length-i;omega) ⟨rfl,rfl,rfl,by simp only[aI,List.lookup,Nat.beq];rw[hcJ,hst],rfl,rfl,by simp[aI],trivial⟩ aA.au
    ·rw[if_pos od]at hd hst hsq;have ht:oK 3 ((d.length:Int)*d.getD i 0-eG d d.length)=((d.length:Int)*d.getD i 0-eG d d.length)*((d.length:Int)*d.getD i 0-eG d d.length):=by unfold oK;rw[if_neg od]
     rw[ht]at hst;have iM:CV prog 192 [.int .i64 ((d.length:Int)*d.getD i 0-eG d d.length),.int .i64 ((d.length:Int)*d.getD i 0-eG d d.length)] (.agg #[.int .i64 0,.int .u64 (((d.length:Int)*d.getD i 0-eG d d.length)*((d.length:Int)*d.getD i 0-eG d d.length))]) True:=⟨fun _ w=>by generalize (d.length:Int)*d.getD i 0-eG d d.length=y at *;have:=(mulW_any y y).h ⟨by show -9223372036854775808≤_∧_≤9223372036854775807;omega,by show -9223372036854775808≤_∧_≤9223372036854775807;omega⟩ w;unfold cA at this;rw[show y*y/18446744073709551616=0 by omega,show y*y%18446744073709551616=y*y by omega]at this;exact this⟩;generalize ((d.length:Int)*d.getD i 0-eG d d.length)*((d.length:Int)*d.getD i 0-eG d d.length)=q at *;refine aB
     ·rw[f3 hok oo];exact cY rfl rfl rfl (.nil _) ⟨rfl,rfl⟩
     ·exact aR (i+1) ⟨h,by rw[hcJ];omega⟩ (by show d.length-(i+1)<d.length-i;omega) ⟨rfl,rfl,rfl,by simp only[aI,List.lookup,Nat.beq];rw[hcJ,hst],rfl,rfl,by simp[aI],trivial⟩ aA.au
   ·obtain rfl:i=d.length:=oo;rw[f4 hok oo];refine aB;exact cY rfl rfl rfl (.nil _) ⟨rfl,rfl⟩
theorem aDs{A A' B B':Int}(h1:A=A')(h2:B=B'):sU [.int .i64 A,.int .i64 B]=Value.tuple #[.int .i64 A',.int .i64 B']:=by subst h1 h2;rfl
end Go.Proofs.YtbhchphfmhmabaaGreat
namespace Go.Proofs.YtbhchphfmhmabaaGreat
open Go.RowKit
instance (f:Fn)(xs ys:Array Value):vQ (.func f xs ys):=⟨rfl⟩
section
variable {F:Fence} {n:Nat} {P:Program} {N:Nat} {ds:List Deferred} {w0:World} {W:Nat→Prop} {σ:List (Nat×Value)} {H R:List HE} {Q:Exit→Act→World→Prop} {K:Act→World→Prop}
variable {d:Nat} {ty:TypeId} {pos:String} {aft:Array Edge} {gd:Option (Nat×Bool)} {o:Oper} {ops:Array Oper} {rest:List Oper}
theorem aX1[hF:aU F][hW:WF F]{dst:Option Nat}{x:Operand}{f:FuncId}{first captured:Array Value}{args:Array Operand}{ts:Array TypeId}{vs:List Value}[hcl:Cl P f]{S:List HE}{Rl:Value→List HE→Prop}
  (hx:ev σ x=some (.func (.func f) first captured)) (hv:vals σ args.toList=some vs) (hs:aC H S R)
  (hc:∀w,St w0 W H w→aZ S w→aF P f (first.toList++vs++captured.toList) S w Rl)
  (h:∀v S',Rl v S'→∀a w,Tm N ds σ a→St w0 W (S'++R) w→K (a.put dst v) w) :
  OJ F n P N ds w0 W σ H ⟨dst,.call ⟨.value x,args,ts⟩,ty,pos,aft,gd⟩ K Q:=by
 intro a w ha hw;have hargs:args.map a.eval=vs.toArray:=by rw[← yJ ha hv];apply Array.ext';simp
 refine⟨fun f _=>hF.out.fn f,?_⟩;rw[Oper.semAt_plain F _ _ aE];have e0:(first++vs.toArray++captured:Array Value)=(first.toList++vs++captured.toList).toArray:=by apply Array.ext';simp
 simp only[execOp,resolve,invoke,Deferred.ofValue,Sem.run_bind,Sem.run_pure,Result.andThen_ok,ha.eval hx,hargs,hcl.h,Oper.uponIn_enter,e0];refine⟨fun hd=>(by rw[hF.out.depth]at hd;cases hd),(hW.h (hc w hw (hw.sub_own hs) (n-1))).mono ?_⟩;rintro e w' ⟨v,S',rfl,hr,hst⟩;exact h v S' hr _ _ ha (hw.call hs hst)
theorem lb[aU F][WF F]{dst:Nat}{x:Operand}{f:FuncId}{first captured:Array Value}{args:Array Operand}{ts:Array TypeId}{vs:List Value}[Cl P f]{S:List HE}{Rl:Value→List HE→Prop}
  (hw:bT ops σ ⟨some dst,.call ⟨.value x,args,ts⟩,ty,pos,aft,gd⟩=some true) (hx:ev σ x=some (.func (.func f) first captured)) (hv:vals σ args.toList=some vs) (hdN:Nat.blt dst N=true)
  (hc:∀w,St w0 W H w→aZ S w→aF P f (first.toList++vs++captured.toList) S w Rl) [hs:uI H S R] (h:∀v S',Rl v S'→J N ds w0 W ((dst,v)::σ) (S'++R) (wpListIn F n P ops Q rest)) :
  J N ds w0 W σ H (wpListIn F n P ops Q (⟨some dst,.call ⟨.value x,args,ts⟩,ty,pos,aft,gd⟩::rest)) :=
 jZ hw (aX1 hx hv hs.h hc fun v S' hr a w ha hw=>h v S' hr _ _ (ha.put dst v (by simpa using hdN)) hw)
end
