import Derived.RangeFuncRecord
import Derived.ChangeKeysEq
import Derived.Test.YthajpemlpmlefaaGreatP20
set_option maxHeartbeats 512000000
set_option maxRecDepth 4000
set_option linter.unusedVariables false
set_option linter.unusedSimpArgs false
namespace Go.Proofs.YthajpemlpmlefaaGreat
open Go.RowKit
theorem split_push{H S R:List HE}(y:HE)(h:Split H S R):Split (y::H) S (y::R):=by
 induction h with
 | nil H=>exact .nil _
 | cons h _ ih=>exact .cons (.there y h) ih
section
variable {n:Nat} {P:Program} {N:Nat} {ds:List Deferred} {w0:World} {W:Nat→Prop} {σ:List (Nat×Value)} {H R:List HE} {Q:Exit→Act→World→Prop}
end
structure Smp where
 dx:Int
 dy:Int
 z:Int
deriving Inhabited
def onTo(W H:Nat)(f:List Int)(X Y:Int)(l:List Smp):Nat→Bool
 | 0=>true
 | i+1=>onTo W H f X Y l i&&codeF W H f (X+(l.getD i default).dx) (Y+(l.getD i default).dy)==0
def apTo(W H:Nat)(f:List Int)(X Y:Int)(l:List Smp):Nat→List Int
 | 0=>[]
 | i+1=>apTo W H f X Y l i++[heightT W H f (X+(l.getD i default).dx) (Y+(l.getD i default).dy)-(l.getD i default).z]
theorem apTo_len(W H:Nat)(f:List Int)(X Y:Int)(l:List Smp):∀i,(apTo W H f X Y l i).length=i
 | 0=>rfl
 | i+1=>by rw[apTo,List.length_append,apTo_len W H f X Y l i];rfl
structure Stp where
 i:Int
 k:Int
 cost:Int
deriving Inhabited
def plcF(W H:Nat)(f:List Int)(X Y:Int)(l:List Smp)(m eA eR eS:Int):Option (Int×Int) :=
 if onTo W H f X Y l l.length=true then some (costF (apTo W H f X Y l l.length) m eA eR eS)else none
def allTo(g:Nat→Option (Int×Int))(p:Nat→Int×Int):Nat→List Stp×Bool
 | 0=>([],false)
 | n+1=>if (allTo g p n).2=true then allTo g p n else
  match g n with
  | none=>allTo g p n
  | some (c,e)=>if e=0 then ((allTo g p n).1++[⟨(p n).1,(p n).2,c⟩],false)else ((allTo g p n).1,true)
def bstTo(l:List Stp):Nat→Option Nat
 | 0=>none
 | i+1=>match bstTo l i with
  | none=>some i
  | some b=>if (l.getD i default).cost<(l.getD b default).cost then some i else some b
def farB(a b:Stp)(away:Int):Bool:=decide (away<max (max (max (a.i-b.i) (b.i-a.i)) (a.k-b.k)) (b.k-a.k))
def secTo(l:List Stp)(b:Stp)(away:Int):Nat→Int
 | 0=>-1
 | i+1=>if farB (l.getD i default) b away=true∧(secTo l b away i<0∨(l.getD i default).cost<secTo l b away i)then (l.getD i default).cost else secTo l b away i
theorem bstTo_lt{l:List Stp}: ∀{n b:Nat},bstTo l n=some b→b<n
 | 0,b,h=>by simp[bstTo]at h
 | n+1,b,h=>by
  rw[bstTo]at h
  split at h
  ·simp at h;omega
  ·rename_i c hc
   have:=bstTo_lt hc
   split at h<;>simp at h<;>omega
theorem bstTo_none{l:List Stp}{n:Nat}:bstTo l n=none↔n=0:=by
 cases n with
 | zero=>simp[bstTo]
 | succ n =>
  rw[bstTo]
  split
  ·simp
  ·split<;>simp
def cbTo(l:List Stp):Nat→Stp
 | 0=>⟨0,0,-1⟩
 | i+1=>if (cbTo l i).cost<0∨(l.getD i default).cost<(cbTo l i).cost then l.getD i default else cbTo l i
theorem cb_bst{l:List Stp}(h:∀i,i<l.length→0≤(l.getD i default).cost):∀{n:Nat},n≤l.length→(bstTo l n=none→cbTo l n=⟨0,0,-1⟩)∧∀b,bstTo l n=some b→cbTo l n=l.getD b default
 | 0,_=>⟨fun _=>rfl,fun b q=>by simp[bstTo]at q⟩
 | n+1,hn=>by
  obtain⟨h1,h2⟩:=cb_bst h (n:=n) (by omega)
  refine⟨fun q=>absurd (bstTo_none.1 q) (by omega),fun b q=>?_⟩
  rw[bstTo]at q
  rw[cbTo]
  cases hb:bstTo l n with
  | none =>
   rw[hb]at q
   simp only[Option.some.injEq]at q
   subst q
   rw[h1 hb,if_pos (.inl (by decide))]
  | some c =>
   rw[hb]at q
   have hc:=bstTo_lt hb
   have hc0:=h c (by omega)
   rw[h2 c hb]
   simp only at q
   split at q
   ·rename_i q1
    simp only[Option.some.injEq]at q
    subst q
    rw[if_pos (.inr q1)]
   ·rename_i q1
    simp only[Option.some.injEq]at q
    subst q
    rw[if_neg (by omega)]
theorem heightT_in{W H:Nat}{f:List Int}(hf:In16 f)(X Y:Int): -1048576≤heightT W H f X Y∧heightT W H f X Y≤1048576:=by
 unfold heightT
 split
 ·obtain⟨a,b,c,d,e,ha,hb,hc,hd⟩:=fourF_in hf (W:=W) (H:=H) X Y
  rw[e]
  simp only[exL]
  obtain⟨h1,h2,h3,h4,h5,h6⟩:=exF_in (fx:=X%256) (fy:=Y%256) ⟨ha,hb,hc,hd⟩ (by omega) (by omega)
  have g1:=Int.mul_le_mul_of_nonneg_right (show a*(256-X%256)+b*(X%256)≤8388608 from by
   have:=Int.mul_le_mul_of_nonneg_right ha.2 (show 0≤256-X%256 by omega)
   have:=Int.mul_le_mul_of_nonneg_right hb.2 (show 0≤X%256 by omega)
   omega) (show 0≤256-Y%256 by omega)
  have g2:=Int.mul_le_mul_of_nonneg_right (show c*(256-X%256)+d*(X%256)≤8388608 from by
   have:=Int.mul_le_mul_of_nonneg_right hc.2 (show 0≤256-X%256 by omega)
   have:=Int.mul_le_mul_of_nonneg_right hd.2 (show 0≤X%256 by omega)
   omega) (show 0≤Y%256 by omega)
  have g3:=Int.mul_le_mul_of_nonneg_right (show -8388608≤a*(256-X%256)+b*(X%256)from by
   have:=Int.mul_le_mul_of_nonneg_right ha.1 (show 0≤256-X%256 by omega)
   have:=Int.mul_le_mul_of_nonneg_right hb.1 (show 0≤X%256 by omega)
   omega) (show 0≤256-Y%256 by omega)
  have g4:=Int.mul_le_mul_of_nonneg_right (show -8388608≤c*(256-X%256)+d*(X%256)from by
   have:=Int.mul_le_mul_of_nonneg_right hc.1 (show 0≤256-X%256 by omega)
   have:=Int.mul_le_mul_of_nonneg_right hd.1 (show 0≤X%256 by omega)
   omega) (show 0≤Y%256 by omega)
  unfold exF
  omega
 ·omega
abbrev smpE:Smp→List Value:=fun s=>[.int .i64 s.dx,.int .i64 s.dy,.int .i64 s.z]
abbrev stpE:Stp→List Value:=fun s=>[.int .i64 s.i,.int .i64 s.k,.int .i64 s.cost]
instance:RowE smpE 3:=⟨fun _=>rfl,by decide⟩
structure Sch where
 x:Int
 y:Int
 far:Int
 step:Int
@[reducible] def schE(s:Sch):List Value:=[.int .i64 s.x,.int .i64 s.y,.int .i64 s.far,.int .i64 s.step]
def SmpOk(s:Smp):Prop:=(-4194304≤s.z∧s.z≤4194304)∧(-1073741824≤s.dx∧s.dx≤1073741824)∧(-1073741824≤s.dy∧s.dy≤1073741824)
instance (s:Smp):Decidable (SmpOk s):=by unfold SmpOk;infer_instance
def badS(l:List Smp):Nat→Bool
 | 0=>false
 | i+1=>badS l i||!decide (SmpOk (l.getD i default))
theorem badS_no{l:List Smp}: ∀{i:Nat},badS l i=false↔∀j,j<i→SmpOk (l.getD j default)
 | 0=>⟨fun _ j hj=>by omega,fun _=>rfl⟩
 | i+1=>by
  have ih:=badS_no (l:=l) (i:=i)
  rw[badS,Bool.or_eq_false_iff,ih,Bool.not_eq_false',decide_eq_true_iff]
  constructor
  ·rintro⟨h1,h2⟩ j hj
   rcases Nat.lt_or_ge j i with h|h
   ·exact h1 j h
   ·obtain rfl:j=i:=by omega
    exact h2
  ·intro h
   exact⟨fun j hj=>h j (by omega),h i (by omega)⟩
theorem badS_yes{l:List Smp}{i n:Nat}(hi:i<n)(h:¬SmpOk (l.getD i default)):badS l n=true:=by
 cases hb:badS l n with
 | true=>rfl
 | false=>exact absurd (badS_no.1 hb i hi) h
def SchOk(s:Sch):Prop:=(0≤s.far∧s.far≤32)∧(1≤s.step∧s.step≤4096)∧(-1099511627776≤s.x∧s.x≤1099511627776)∧(-1099511627776≤s.y∧s.y≤1099511627776)
instance (s:Sch):Decidable (SchOk s):=by unfold SchOk;infer_instance
def chk21(s:Sch)(l:List Smp):Int:=if ¬SchOk s then 2 else if l.length=0∨64<l.length then 5 else if badS l l.length=true then 1 else 0
theorem chk21_ok{s:Sch}{l:List Smp}(h:chk21 s l=0):SchOk s∧(0<l.length∧l.length≤64)∧∀j,j<l.length→SmpOk (l.getD j default):=by
 unfold chk21 at h
 split at h
 ·cases h
 rename_i h1
 split at h
 ·cases h
 rename_i h2
 split at h
 ·cases h
 rename_i h3
 exact⟨Classical.not_not.1 h1,by omega,badS_no.1 (by simpa using h3)⟩
section
variable {g:Nat→Option (Int×Int)} {p:Nat→Int×Int}
theorem all_stop{n:Nat}(h:(allTo g p n).2=true):∀k,allTo g p (n+k)=allTo g p n
 | 0=>rfl
 | k+1=>by
  have ih:=all_stop h k
  show allTo g p (n+k+1)=_
  rw[allTo,ih,if_pos h]
theorem all_none{n:Nat}(h:(allTo g p n).2=false)(hg:g n=none):allTo g p (n+1)=allTo g p n:=by
 rw[allTo,if_neg (by rw[h];decide),hg]
theorem all_some{n:Nat}{c:Int}(h:(allTo g p n).2=false)(hg:g n=some (c,0)):allTo g p (n+1)=((allTo g p n).1++[⟨(p n).1,(p n).2,c⟩],false):=by
 rw[allTo,if_neg (by rw[h];decide),hg]
 rfl
theorem all_err{n:Nat}{c e:Int}(h:(allTo g p n).2=false)(hg:g n=some (c,e))(he:e≠0):allTo g p (n+1)=((allTo g p n).1,true):=by
 rw[allTo,if_neg (by rw[h];decide),hg]
 simp[he]
theorem all_pre(n:Nat):∀k,∃r,(allTo g p (n+k)).1=(allTo g p n).1++r
 | 0=>⟨[],by simp⟩
 | k+1=>by
  obtain⟨r,hr⟩:=all_pre n k
  show ∃r,(allTo g p (n+k+1)).1=_
  rw[allTo]
  split
  ·exact⟨r,hr⟩
  split
  ·exact⟨r,hr⟩
  split
  ·exact⟨r++[⟨(p (n+k)).1,(p (n+k)).2,_⟩],by rw[hr,List.append_assoc]⟩
  ·exact⟨r,hr⟩
theorem all_len:∀n,(allTo g p n).1.length≤n
 | 0=>Nat.le_refl _
 | n+1=>by
  have ih:=all_len n
  rw[allTo]
  split
  ·omega
  split
  ·omega
  split
  ·simp;omega
  ·show (allTo g p n).1.length≤n+1
   omega
theorem all_at{n N:Nat}{c:Int}(hn:n<N)(h:(allTo g p n).2=false)(hg:g n=some (c,0)):(allTo g p N).1.getD (allTo g p n).1.length default=⟨(p n).1,(p n).2,c⟩∧(allTo g p n).1.length<(allTo g p N).1.length:=by
 obtain⟨r,hr⟩:=all_pre (g:=g) (p:=p) (n+1) (N-(n+1))
 rw[show n+1+(N-(n+1))=N by omega,all_some h hg]at hr
 rw[hr]
 constructor
 ·rw[List.getD_eq_getElem?_getD,List.getElem?_append_left (by simp),List.getElem?_append_right (Nat.le_refl _),Nat.sub_self]
  rfl
 ·simp
theorem all_mem:∀(N:Nat) (x:Stp),x∈(allTo g p N).1→∃n,n<N∧x.i=(p n).1∧x.k=(p n).2∧g n=some (x.cost,0)
 | 0,x,h=>by simp[allTo]at h
 | N+1,x,h=>by
  have ih:=all_mem N x
  have up:x∈(allTo g p N).1→∃n,n<N+1∧x.i=(p n).1∧x.k=(p n).2∧g n=some (x.cost,0):=fun hx=>by
   obtain⟨n,h1,h2⟩:=ih hx
   exact⟨n,by omega,h2⟩
  rw[allTo]at h
  split at h
  ·exact up h
  split at h
  ·exact up h
  rename_i c e hg
  split at h
  ·rename_i he
   rcases List.mem_append.1 h with h|h
   ·exact up h
   ·rw[List.mem_singleton]at h
    subst h
    exact⟨N,by omega,rfl,rfl,by rw[hg,he]⟩
  ·exact up h
end
theorem costF_in{d:List Int}{m c:Int}(h:costF d m 1 2 10=(c,0)):0≤c∧c≤4611686018427387904:=by
 unfold costF at h
 split at h
 ·simp at h
 split at h
 ·simp at h
 split at h
 ·simp at h
 ·rename_i h3
  injection h with h1 _
  have:=cosTo_nn d.length (sumTo d d.length) m d d.length
  omega
def sideN(far:Int):Nat:=2*far.toNat+1
def pS(far:Int)(n:Nat):Int×Int:=(((n%sideN far:Nat):Int)-far,((n/sideN far:Nat):Int)-far)
theorem pS_at{far:Int}{i j:Nat}(h:i<sideN far):pS far (j*sideN far+i)=((i:Int)-far,(j:Int)-far):=by
 have hp:0<sideN far:=by unfold sideN;omega
 unfold pS
 rw[Nat.mul_comm,Nat.mul_add_mod,Nat.mod_eq_of_lt h,Nat.mul_add_div hp,Nat.div_eq_of_lt h,Nat.add_zero]
theorem pS_in{far:Int}(hf:0≤far){n:Nat}(h:n<sideN far*sideN far):(-far≤(pS far n).1∧(pS far n).1≤far)∧(-far≤(pS far n).2∧(pS far n).2≤far):=by
 have h1:=Nat.mod_lt n (show 0<sideN far by unfold sideN;omega)
 have h2:=Nat.div_lt_of_lt_mul h
 have h3:(sideN far:Int)=2*far+1:=by unfold sideN;push_cast;omega
 unfold pS
 dsimp only
 generalize n%sideN far=a at *
 generalize n/sideN far=b at *
 omega
def gS(W H:Nat)(f:List Int)(s:Sch)(l:List Smp)(m:Int)(n:Nat):Option (Int×Int) :=
 plcF W H f (s.x+(pS s.far n).1*s.step) (s.y+(pS s.far n).2*s.step) l m 1 2 10
def allN(W H:Nat)(f:List Int)(s:Sch)(l:List Smp)(m:Int)(n:Nat):List Stp×Bool:=allTo (gS W H f s l m) (pS s.far) n
def allL(W H:Nat)(f:List Int)(s:Sch)(l:List Smp)(m:Int):List Stp:=if chk21 s l=0 then (allN W H f s l m (sideN s.far*sideN s.far)).1 else []
theorem gS_cost{W H:Nat}{f:List Int}{s:Sch}{l:List Smp}{m:Int}{n:Nat}{c:Int}(h:gS W H f s l m n=some (c,0)):0≤c∧c≤4611686018427387904:=by
 unfold gS plcF at h
 split at h
 ·exact costF_in (Option.some.inj h)
 ·cases h
theorem allL_in{W H:Nat}{f:List Int}{s:Sch}{l:List Smp}{m:Int}{i:Nat}(hi:i<(allL W H f s l m).length):
  let x:=(allL W H f s l m).getD i default
  (-32≤x.i∧x.i≤32)∧(-32≤x.k∧x.k≤32)∧(0≤x.cost∧x.cost≤4611686018427387904)∧(-s.far≤x.i∧x.i≤s.far)∧(-s.far≤x.k∧x.k≤s.far):=by
 intro x
 have hx:x∈allL W H f s l m:=by
  show (allL W H f s l m).getD i default∈_
  rw[List.getD_eq_getElem?_getD,List.getElem?_eq_getElem hi]
  exact List.getElem_mem ..
 clear_value x
 unfold allL at hx
 split at hx
 ·rename_i hc
  obtain⟨hs,-⟩:=chk21_ok hc
  obtain⟨hs1,-⟩:=hs
  obtain⟨n,hn,h1,h2,h3⟩:=all_mem _ _ hx
  have h4:=pS_in hs1.1 hn
  have h5:=gS_cost h3
  omega
 ·simp at hx
theorem allL_len(W H:Nat)(f:List Int)(s:Sch)(l:List Smp)(m:Int):(allL W H f s l m).length≤4225:=by
 unfold allL
 split
 ·rename_i hc
  obtain⟨⟨h1,-⟩,-⟩:=chk21_ok hc
  have:=all_len (g:=gS W H f s l m) (p:=pS s.far) (sideN s.far*sideN s.far)
  have h2:sideN s.far≤65:=by unfold sideN;omega
  have:=Nat.mul_le_mul h2 h2
  unfold allN
  omega
 ·simp
instance (i:Nat):LitI ((i:Nat):Int) i:=⟨rfl⟩
section
variable {P:Program} (w:World)
end
attribute [local irreducible] OJ J HdJ Code.wpIn wpListIn Oper.wpIn bodyPost CallsIn Does
instance (priority:=2000) negW_any(z:Int):CV Tryz.prog 212 [.agg (wideV z).toArray] (.agg (wideV (-z)).toArray) (-85070591730234615865843651857942052864≤z∧z≤85070591730234615865843651857942052864):=⟨fun hc w=>by
 refine does_of Tryz.func212 rfl Tryz.ntmps212 rfl ⟨by simp,.nil⟩ (fun n=>?_)
 simp only[slots]
 refine z_gob
 refine z_ro
 refine⟨wideA_eq ?_ (by omega),rfl⟩
 rw[IntKind.wrap_u64,IntKind.wrap_u64,IntKind.wrap_u64,IntKind.wrap_i64]
 split<;>omega⟩
theorem absI_in{a:Int}(h:InR .i64 a):0≤absI a∧absI a≤9223372036854775808:=by
 have h1 : -9223372036854775808≤a∧a≤9223372036854775807:=h
 unfold absI
 split<;>omega
instance (priority:=2000) mulW_any(a b:Int):CV Tryz.prog 161 [.int .i64 a,.int .i64 b] (.agg (wideV (a*b)).toArray) (InR .i64 a∧InR .i64 b):=⟨fun hc w=>by
 have h1:=absI_mul a b
 have ha:=absI_in hc.1
 have hb:=absI_in hc.2
 have h2:0≤absI a*absI b∧absI a*absI b≤85070591730234615865843651857942052864:=by
  have:=mulB 9223372036854775808 9223372036854775808 (a:=absI a) (b:=absI b) (by omega) (by omega)
  have:=Int.mul_nonneg ha.1 hb.1
  omega
 have hc1:=hc.1
 have hc2:=hc.2
 refine does_of Tryz.func161 rfl Tryz.ntmps161 rfl ⟨by simp,.nil⟩ (fun n=>?_)
 simp only[slots]
 refine z_gob
 ·rename_i h
  refine z_ro
  refine⟨?_,rfl⟩
  rw[h1,absI_neg a b (fun e=>h (by rw[e]))]
  rfl
 ·rename_i h
  refine z_ro
  refine⟨?_,rfl⟩
  rw[h1,absI_sgn a b (.inl (propext (Classical.not_not.1 h)))]
  rfl⟩
end Go.Proofs.YthajpemlpmlefaaGreat
namespace Go.Proofs.YthajpemlpmlefaaGreat
open Go.RowKit
instance {P:Program}{w0:World}{W:Nat→Prop}{H:List HE}(x y u v:Operand)(ts:Array TypeId)(k:IntKind)(p q r s:Int):MS P w0 W H (.call ⟨.builtin .max,#[x,y,u,v],ts⟩) [.int k p,.int k q,.int k r,.int k s] (.int k (max (max (max p q) r) s)) True:=⟨fun _ _ _ _ _ _ _ _ _ _ _ _ _ _ h1 h2 h3=>by
 refine o_val (by simp) rfl h2 (fun a w ha _=>?_) h3
 have hm:∀p q:Int,(if p<q then q else p)=max p q:=fun p q=>by omega
 have he:=vals_map ha (show vals _ [x,y,u,v]=some _ from h1)
 simp only[List.map_cons,List.map_nil,List.cons.injEq,and_true]at he
 obtain⟨e1,e2,e3,e4⟩:=he
 simp[execOp,e1,e2,e3,e4,resolve,invoke,builtin,Builtin.max_,Builtin.max2,hm]⟩
attribute [local irreducible] OJ J HdJ Code.wpIn wpListIn Oper.wpIn bodyPost CallsIn Does
theorem chk21_1{s:Sch}{l:List Smp}(h:¬SchOk s):chk21 s l=2:=if_pos h
theorem chk21_2{s:Sch}{l:List Smp}(h:SchOk s)(h2:l.length=0∨64<l.length):chk21 s l=5:=by unfold chk21;rw[if_neg (not_not_intro h),if_pos h2]
theorem chk21_3{s:Sch}{l:List Smp}(h:SchOk s)(h2:¬(l.length=0∨64<l.length))(h3:badS l l.length=true):chk21 s l=1:=by unfold chk21;rw[if_neg (not_not_intro h),if_neg h2,if_pos h3]
theorem chk21_4{s:Sch}{l:List Smp}(h:SchOk s)(h2:¬(l.length=0∨64<l.length))(h3:badS l l.length=false):chk21 s l=0:=by unfold chk21;rw[if_neg (not_not_intro h),if_neg h2,h3];rfl
theorem mcheck_any(s:Sch)(Al:Option Addr)(cl:Nat)(l:List Smp)(w:World)(hr:RoA w (blocks []) Al l.length cl 3 (flat smpE l))(hm:l.length≤1000000):
  Does Tryz.prog 180 [.agg (schE s).toArray,.slice Al l.length cl] [] w (fun v S'=>v=.int .i64 (chk21 s l)∧S'=[]):=by
 refine does_of Tryz.func180 rfl Tryz.ntmps180 rfl ⟨by simp,.nil⟩ (fun n=>?_)
 simp only[slots]
 by_cases hs:SchOk s
 ·have hs':=hs
  obtain⟨⟨s1,s2⟩,⟨s3,s4⟩,⟨s5,s6⟩,⟨s7,s8⟩⟩:=hs'
  by_cases h2:l.length=0∨64<l.length
  ·rw[chk21_2 hs h2]
   refine z_tas
   all_goals exact j_out1 rfl rfl (.nil _) ⟨rfl,rfl⟩
  ·have h3:=chk21_3 (s:=s) (l:=l) hs h2
   have h4:=chk21_4 (s:=s) (l:=l) hs h2
   obtain⟨bL,oL,rfl,hL⟩:=hr.at_ (by omega:0<l.length)
   refine z_tas
   rename_i b2 _ _ _ _ _ _ _ _ _ _
   refine c_loop (X:=Nat) (fun i=>i≤l.length∧∀j,j<i→SmpOk (l.getD j default)) (fun i=>[(2,.pointer (some ⟨b2,0,none⟩)),(57,.slice (some ⟨bL,oL,none⟩) l.length cl),(58,.int .i64 l.length),(59,.int .i64 i)])
    (fun i=>[.blk b2 226 (schE s)]) (fun i=>l.length-i) 0 ⟨by omega,fun j hj=>by omega⟩ ⟨rfl,rfl,rfl,rfl,trivial⟩ Sub.au ?_
   rintro i ⟨hi,hj⟩
   rcases Nat.lt_or_ge i l.length with h|h
   ·have hb:¬SmpOk (l.getD i default)→badS l l.length=true:=badS_yes h
    have hsx:SmpOk (l.getD i default)↔((-4194304≤(l.getD i default).z∧(l.getD i default).z≤4194304)∧(-1073741824≤(l.getD i default).dx∧(l.getD i default).dx≤1073741824)∧(-1073741824≤(l.getD i default).dy∧(l.getD i default).dy≤1073741824)):=Iff.rfl
    refine z_tas
    all_goals first
     | (refine c_round (i + 1) ⟨h, fun j hjj => ?_⟩ (by show l.length - (i + 1) < l.length - i; omega) ⟨rfl, rfl, rfl, by simp [look], trivial⟩ Sub.au
        rcases Nat.lt_or_ge j i with h1 | h1
        · exact hj j h1
        · rw [show j = i by omega, hsx]; omega)
     | (rw[h3 (hb (by rw[hsx];omega))];exact j_out1 rfl rfl (.nil _) ⟨rfl,rfl⟩)
   ·obtain rfl:i=l.length:=by omega
    rw[h4 (badS_no.2 hj)]
    refine z_tas
    exact j_out1 rfl rfl (.nil _) ⟨rfl,rfl⟩
 ·rw[chk21_1 hs]
  have hs':¬((0≤s.far∧s.far≤32)∧(1≤s.step∧s.step≤4096)∧(-1099511627776≤s.x∧s.x≤1099511627776)∧(-1099511627776≤s.y∧s.y≤1099511627776)):=hs
  refine z_tas
  all_goals first
   | exact j_out1 rfl rfl (.nil _) ⟨rfl,rfl⟩
   | (exfalso;omega)
theorem costF_1{d:List Int}{m:Int}(h:64<d.length∨m<0∨3<m):costF d m 1 2 10=(0,1):=if_pos h
theorem costF_2{d:List Int}{m:Int}(h:¬(64<d.length∨m<0∨3<m))(hb:badTo d d.length=true):costF d m 1 2 10=(0,2):=by unfold costF;rw[if_neg h,if_pos hb]
theorem costF_3{d:List Int}{m:Int}(h:¬(64<d.length∨m<0∨3<m))(hb:DifOk d d.length)(hc:4611686018427387904<cosTo d.length (sumTo d d.length) m d d.length):costF d m 1 2 10=(0,10):=by unfold costF;rw[if_neg h,badTo_no.2 hb,if_neg (by decide),if_pos hc]
theorem costF_4{d:List Int}{m:Int}(h:¬(64<d.length∨m<0∨3<m))(hb:DifOk d d.length)(hc:¬4611686018427387904<cosTo d.length (sumTo d d.length) m d d.length):costF d m 1 2 10=(cosTo d.length (sumTo d d.length) m d d.length,0):=by unfold costF;rw[if_neg h,badTo_no.2 hb,if_neg (by decide),if_neg hc]
theorem badTo_yes{d:List Int}{i n:Nat}(hi:i<n)(h:d.getD i 0 < -8388608∨8388608<d.getD i 0):badTo d n=true:=by
 cases hb:badTo d n with
 | true=>rfl
 | false=>have:=badTo_no.1 hb i hi;omega
theorem DifOk.succ{d:List Int}{i:Nat}(h:DifOk d i)(h2 : -8388608≤d.getD i 0∧d.getD i 0≤8388608):DifOk d (i+1):=fun j hj=>by
 rcases Nat.lt_or_ge j i with h1|h1
 ·exact h j h1
 ·rw[show j=i by omega];exact h2
theorem sq_in{y:Int}(h : -1073741824≤y∧y≤1073741824):0≤y*y∧y*y≤1152921504606846976:=by
 have:=mulB 1073741824 1073741824 (a:=y) (b:=y) (by omega) (by omega)
 refine⟨?_,by omega⟩
 rcases Int.lt_or_le y 0 with h|h
 ·exact Int.le_of_lt (Int.mul_pos_of_neg_of_neg h h)
 ·exact Int.mul_nonneg h h
theorem cosTo_lin{d:List Int}{m:Int}(hm:m=0∨m=2)(hl:d.length≤64)(h:DifOk d d.length):∀i,i≤d.length→cosTo d.length (sumTo d d.length) m d i≤1073741824*(i:Int)
 | 0,_=>by simp[cosTo]
 | i+1,hi=>by
  have h1:=cosTo_lin hm hl h i (by omega)
  have h2:=difX_in (m:=m) hl h (show i<d.length by omega)
  rw[cosTo]
  have:terX m (difX d.length (sumTo d d.length) m (d.getD i 0))≤1073741824:=by
   unfold terX
   rw[if_pos hm]
   split<;>omega
  omega
theorem mcost_any(A:Option Addr)(c:Nat)(d:List Int)(m:Int)(w:World)(hr:RoA w (blocks []) A d.length c 1 (ints .i64 d))(hm:d.length≤1000000):
  Does Tryz.prog 230 [.slice A d.length c,.int .i64 m] [] w (fun v S'=>v=.tuple #[.int .i64 (costF d m 1 2 10).1,.int .i64 (costF d m 1 2 10).2]∧S'=[]):=by
 refine does_of Tryz.func230 rfl Tryz.ntmps230 rfl ⟨by simp,.nil⟩ (fun n=>?_)
 simp only[slots]
 by_cases h0:64<d.length∨m<0∨3<m
 ·rw[costF_1 h0]
  refine z_tas
  all_goals first
   | exact j_out2 rfl rfl rfl (.nil _) ⟨rfl,rfl⟩
   | (exfalso;omega)
 ·have f2:=costF_2 h0
  have f3:=costF_3 h0
  have f4:=costF_4 h0
  refine z_tas
  refine c_loop (X:=Nat) (fun i=>i≤d.length∧DifOk d i) (fun i=>[(0,.slice A d.length c),(1,.int .i64 m),(6,.int .i64 d.length),(7,.int .i64 (sumTo d i)),(27,.slice A d.length c),(28,.int .i64 d.length),(29,.int .i64 i)])
   (fun i=>[]) (fun i=>d.length-i) 0 ⟨by omega,fun j hj=>by omega⟩ ⟨rfl,rfl,rfl,rfl,rfl,rfl,rfl,trivial⟩ Sub.au ?_
  rintro i ⟨hi,hok⟩
  have hsi:=sumTo_in hok
  rcases Nat.lt_or_ge i d.length with h|h
  ·obtain⟨bL,oL,rfl,hL⟩:=hr.at_ (by omega:0<d.length)
   have hy:=badTo_yes (d:=d) (n:=d.length) h
   refine z_tas
   ·rw[f2 (hy (by omega))]
    exact j_out2 rfl rfl rfl (.nil _) ⟨rfl,rfl⟩
   ·rw[f2 (hy (by omega))]
    exact j_out2 rfl rfl rfl (.nil _) ⟨rfl,rfl⟩
   ·exact c_round (i+1) ⟨h,hok.succ (by omega)⟩ (by show d.length-(i+1)<d.length-i;omega) ⟨rfl,rfl,rfl,rfl,rfl,rfl,by simp[look],trivial⟩ Sub.au
  ·obtain rfl:i=d.length:=by omega
   have hb:badTo d d.length=false:=badTo_no.2 hok
   have hlin:=cosTo_lin (d:=d) (m:=m)
   refine z_tas
   refine c_loop (X:=Nat) (fun i=>i≤d.length∧cosTo d.length (sumTo d d.length) m d i≤4611686018427387904) (fun i=>[(1,.int .i64 m),(6,.int .i64 d.length),(7,.int .i64 (sumTo d d.length)),(10,.int .i64 (cosTo d.length (sumTo d d.length) m d i)),(43,.slice A d.length c),(44,.int .i64 d.length),(45,.int .i64 i)])
    (fun i=>[]) (fun i=>d.length-i) 0 ⟨by omega,by show (0:Int)≤_;omega⟩ ⟨rfl,rfl,rfl,rfl,rfl,rfl,rfl,trivial⟩ Sub.au ?_
   rintro i ⟨hi,hci⟩
   have hnn:=cosTo_nn d.length (sumTo d d.length) m d i
   rcases Nat.lt_or_ge i d.length with h|h
   ·obtain⟨bL,oL,rfl,hL⟩:=hr.at_ (by omega:0<d.length)
    have hx:=hok i h
    have hd:=difX_in (m:=m) (by omega) hok h
    have hst:cosTo d.length (sumTo d d.length) m d (i+1)=cosTo d.length (sumTo d d.length) m d i+terX m (difX d.length (sumTo d d.length) m (d.getD i 0)):=rfl
    have hmono:=cosTo_le (n:=d.length) (s:=sumTo d d.length) (m:=m) (d:=d) (show i+1≤d.length from h)
    have hl1:m=0∨m=2→cosTo d.length (sumTo d d.length) m d (i+1)≤4611686018427387904:=fun h2=>by
     have:=cosTo_lin h2 (by omega) hok (i+1) h
     omega
    have hnx:=mulB 64 8388608 (a:=(d.length:Int)) (b:=d.getD i 0) (by omega) (by omega)
    generalize hcI:cosTo d.length (sumTo d d.length) m d i=cI at *
    generalize hcJ:cosTo d.length (sumTo d d.length) m d (i+1)=cJ at *
    have hsq:=sq_in hd
    unfold difX at hd hst hsq
    obtain rfl|rfl|rfl|rfl:m=0∨m=1∨m=2∨m=3:=by omega
    ·rw[if_neg (by decide)]at hd hst hsq
     have hl2:=hl1 (by omega)
     have ht:terX 0 (d.getD i 0)=max (d.getD i 0) (-(d.getD i 0)):=by unfold terX;rw[if_pos (by decide)];split<;>omega
     rw[ht]at hst
     refine z_tas
     all_goals exact c_round (i+1) ⟨h,by rw[hcJ];omega⟩ (by show d.length-(i+1)<d.length-i;omega) ⟨rfl,rfl,rfl,by simp only[look,List.lookup,Nat.beq];rw[hcJ,hst],rfl,rfl,by simp[look],trivial⟩ Sub.au
    ·rw[if_neg (by decide)]at hd hst hsq
     have ht:terX 1 (d.getD i 0)=d.getD i 0*d.getD i 0:=by unfold terX;rw[if_neg (by decide)]
     rw[ht]at hst
     have iM:CV Tryz.prog 161 [.int .i64 (d.getD i 0),.int .i64 (d.getD i 0)] (.agg #[.int .i64 0,.int .u64 (d.getD i 0*d.getD i 0)]) True:=⟨fun _ w=>by
      have:=(mulW_any (d.getD i 0) (d.getD i 0)).h ⟨by show -9223372036854775808≤_∧_≤9223372036854775807;omega,by show -9223372036854775808≤_∧_≤9223372036854775807;omega⟩ w
      unfold wideV at this
      rw[show d.getD i 0*d.getD i 0/18446744073709551616=0 by omega,show d.getD i 0*d.getD i 0%18446744073709551616=d.getD i 0*d.getD i 0 by omega]at this
      exact this⟩
     generalize d.getD i 0*d.getD i 0=q at *
     refine z_tas
     ·rw[f3 hok (by omega)]
      exact j_out2 rfl rfl rfl (.nil _) ⟨rfl,rfl⟩
     ·exact c_round (i+1) ⟨h,by rw[hcJ];omega⟩ (by show d.length-(i+1)<d.length-i;omega) ⟨rfl,rfl,rfl,by simp only[look,List.lookup,Nat.beq];rw[hcJ,hst],rfl,rfl,by simp[look],trivial⟩ Sub.au
    ·rw[if_pos (by decide)]at hd hst hsq
     have hl2:=hl1 (by omega)
     have ht:terX 2 ((d.length:Int)*d.getD i 0-sumTo d d.length)=max ((d.length:Int)*d.getD i 0-sumTo d d.length) (-((d.length:Int)*d.getD i 0-sumTo d d.length)):=by unfold terX;rw[if_pos (by decide)];split<;>omega
     rw[ht]at hst
     refine z_tas
     all_goals exact c_round (i+1) ⟨h,by rw[hcJ];omega⟩ (by show d.length-(i+1)<d.length-i;omega) ⟨rfl,rfl,rfl,by simp only[look,List.lookup,Nat.beq];rw[hcJ,hst],rfl,rfl,by simp[look],trivial⟩ Sub.au
    ·rw[if_pos (by decide)]at hd hst hsq
     have ht:terX 3 ((d.length:Int)*d.getD i 0-sumTo d d.length)=((d.length:Int)*d.getD i 0-sumTo d d.length)*((d.length:Int)*d.getD i 0-sumTo d d.length):=by unfold terX;rw[if_neg (by decide)]
     rw[ht]at hst
     have iM:CV Tryz.prog 161 [.int .i64 ((d.length:Int)*d.getD i 0-sumTo d d.length),.int .i64 ((d.length:Int)*d.getD i 0-sumTo d d.length)] (.agg #[.int .i64 0,.int .u64 (((d.length:Int)*d.getD i 0-sumTo d d.length)*((d.length:Int)*d.getD i 0-sumTo d d.length))]) True:=⟨fun _ w=>by
      generalize (d.length:Int)*d.getD i 0-sumTo d d.length=y at *
      have:=(mulW_any y y).h ⟨by show -9223372036854775808≤_∧_≤9223372036854775807;omega,by show -9223372036854775808≤_∧_≤9223372036854775807;omega⟩ w
      unfold wideV at this
      rw[show y*y/18446744073709551616=0 by omega,show y*y%18446744073709551616=y*y by omega]at this
      exact this⟩
     generalize ((d.length:Int)*d.getD i 0-sumTo d d.length)*((d.length:Int)*d.getD i 0-sumTo d d.length)=q at *
     refine z_tas
     ·rw[f3 hok (by omega)]
      exact j_out2 rfl rfl rfl (.nil _) ⟨rfl,rfl⟩
     ·exact c_round (i+1) ⟨h,by rw[hcJ];omega⟩ (by show d.length-(i+1)<d.length-i;omega) ⟨rfl,rfl,rfl,by simp only[look,List.lookup,Nat.beq];rw[hcJ,hst],rfl,rfl,by simp[look],trivial⟩ Sub.au
   ·obtain rfl:i=d.length:=by omega
    rw[f4 hok (by omega)]
    refine z_tas
    exact j_out2 rfl rfl rfl (.nil _) ⟨rfl,rfl⟩
theorem two_ii{A A' B B':Int}(h1:A=A')(h2:B=B'):retV [.int .i64 A,.int .i64 B]=Value.tuple #[.int .i64 A',.int .i64 B']:=by subst h1 h2;rfl
end Go.Proofs.YthajpemlpmlefaaGreat
namespace Go.Proofs.YthajpemlpmlefaaGreat
open Go.RowKit
instance (f:Fn)(xs ys:Array Value):One (.func f xs ys):=⟨rfl⟩
section
variable {F:Fence} {n:Nat} {P:Program} {N:Nat} {ds:List Deferred} {w0:World} {W:Nat→Prop} {σ:List (Nat×Value)} {H R:List HE} {Q:Exit→Act→World→Prop} {K:Act→World→Prop}
variable {d:Nat} {ty:TypeId} {pos:String} {aft:Array Edge} {gd:Option (Nat×Bool)} {o:Oper} {ops:Array Oper} {rest:List Oper}
theorem o_callB[hF:Wide F][hW:WF F]{dst:Option Nat}{x:Operand}{f:FuncId}{first captured:Array Value}{args:Array Operand}{ts:Array TypeId}{vs:List Value}[hcl:Cl P f]{S:List HE}{Rl:Value→List HE→Prop}
  (hx:ev σ x=some (.func (.func f) first captured)) (hv:vals σ args.toList=some vs) (hs:Split H S R)
  (hc:∀w,St w0 W H w→Own S w→Does P f (first.toList++vs++captured.toList) S w Rl)
  (h:∀v S',Rl v S'→∀a w,Tm N ds σ a→St w0 W (S'++R) w→K (a.put dst v) w) :
  OJ F n P N ds w0 W σ H ⟨dst,.call ⟨.value x,args,ts⟩,ty,pos,aft,gd⟩ K Q:=by
 intro a w ha hw
 have hargs:args.map a.eval=vs.toArray:=by
  rw[← vals_map ha hv]
  apply Array.ext'
  simp
 refine⟨fun f _=>hF.out.fn f,?_⟩
 rw[Oper.semAt_plain F _ _ (by simp)]
 have e0:(first++vs.toArray++captured:Array Value)=(first.toList++vs++captured.toList).toArray:=by
  apply Array.ext';simp
 simp only[execOp,resolve,invoke,Deferred.ofValue,Sem.run_bind,Sem.run_pure,Result.andThen_ok,ha.eval hx,hargs,hcl.h,Oper.uponIn_enter,e0]
 refine⟨fun hd=>(by rw[hF.out.depth]at hd;cases hd),(hW.h (hc w hw (hw.sub_own hs) (n-1))).mono ?_⟩
 rintro e w' ⟨v,S',rfl,hr,hst⟩
 exact h v S' hr _ _ ha (hw.call hs hst)
theorem lb[Wide F][WF F]{dst:Nat}{x:Operand}{f:FuncId}{first captured:Array Value}{args:Array Operand}{ts:Array TypeId}{vs:List Value}[Cl P f]{S:List HE}{Rl:Value→List HE→Prop}
  (hw:wantd ops σ ⟨some dst,.call ⟨.value x,args,ts⟩,ty,pos,aft,gd⟩=some true) (hx:ev σ x=some (.func (.func f) first captured)) (hv:vals σ args.toList=some vs) (hdN:Nat.blt dst N=true)
  (hc:∀w,St w0 W H w→Own S w→Does P f (first.toList++vs++captured.toList) S w Rl) [hs:SplitC H S R] (h:∀v S',Rl v S'→J N ds w0 W ((dst,v)::σ) (S'++R) (wpListIn F n P ops Q rest)) :
  J N ds w0 W σ H (wpListIn F n P ops Q (⟨some dst,.call ⟨.value x,args,ts⟩,ty,pos,aft,gd⟩::rest)) :=
 l_run hw (o_callB hx hv hs.h hc fun v S' hr a w ha hw=>h v S' hr _ _ (ha.put dst v (by simpa using hdN)) hw)
end
end Go.Proofs.YthajpemlpmlefaaGreat
