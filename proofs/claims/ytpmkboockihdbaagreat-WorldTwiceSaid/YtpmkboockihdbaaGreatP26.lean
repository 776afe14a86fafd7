import Derived.Test.YtpmkboockihdbaaGreatP23
import Derived.Test.YtpmkboockihdbaaGreatP24
set_option maxHeartbeats 512000000
set_option maxRecDepth 4000
set_option linter.unusedVariables false
set_option linter.unusedSimpArgs false
namespace Go.Proofs.YtpmkboockihdbaaGreat
open Go.RowKit _root_.Go.Proofs.Tryz
attribute [local irreducible] OJ J bO Code.wpIn wpListIn Oper.wpIn bodyPost CallsIn aF
instance (priority:=2000) addW_any(x y:Int):CV prog 146 [.agg (cH x).toArray,.agg (cH y).toArray] (.tuple #[.agg (cH (x+y)).toArray,.bool true]) ((-42535295865117307932921825928971026432≤x∧x≤42535295865117307932921825928971026432)∧(-42535295865117307932921825928971026432≤y∧y≤42535295865117307932921825928971026432)):=⟨fun hc w=>by
 obtain⟨A,hA⟩:∃A,x/18446744073709551616=A:=⟨_,rfl⟩;obtain⟨B,hB⟩:∃B,y/18446744073709551616=B:=⟨_,rfl⟩;obtain⟨p,hp⟩:∃A,x%18446744073709551616=A:=⟨_,rfl⟩;obtain⟨q,hq⟩:∃A,y%18446744073709551616=A:=⟨_,rfl⟩;have pA:IntKind.u64.wrap A=A%18446744073709551616:=by rw[IntKind.wrap_u64]
 have pB:IntKind.u64.wrap B=B%18446744073709551616:=by rw[IntKind.wrap_u64]
 have pq:0≤p∧p<18446744073709551616:=oo;have qq:0≤q∧q<18446744073709551616:=oo;have hAB : -2305843009213693953≤A∧A≤2305843009213693953:=oo;have hBB : -2305843009213693953≤B∧B≤2305843009213693953:=oo;have e1:(x+y)/18446744073709551616=A+B+(p+q)/18446744073709551616:=oo;have e2:(x+y)%18446744073709551616=(p+q)%18446744073709551616:=oo;have e3:IntKind.i64.wrap ((IntKind.u64.wrap A+IntKind.u64.wrap B+(p+q+0)/18446744073709551616)%18446744073709551616)=A+B+(p+q)/18446744073709551616:=by rw[IntKind.wrap_i64,pA,pB,Int.add_zero];have:0≤(p+q)/18446744073709551616∧(p+q)/18446744073709551616≤1:=oo;omega
 have e4:0≤(p+q)/18446744073709551616∧(p+q)/18446744073709551616≤1:=oo;refine aJ func146 rfl ntmps146 rfl ⟨aE,.nil⟩ (fun n=>?_);simp only[aG];simp only[cH];rw[hA,hB,hp,hq];refine jG;refine aJm 1 rfl rfl od bD ?_;refine jG;all_goals (refine bI;refine⟨aPj ?_ ?_ ?_,rfl⟩)
 all_goals first
  | (rw[e3,e1];done)
  | (rw[e2,Int.add_zero];done)
  | rfl
  | (rename_i h;rw[e3];rw[Classical.not_not]at h;simp only[beq_iff_eq,decide_eq_decide];omega)⟩
def qL(best cost times:Int):Int:=if best<0∨cost<best∨times<1∨65536<times∨4611686018427387904<cost then 0 else if (best+1)*times<cost then 0 else (2*((best+1)*65536)+(cost+1))/(2*(cost+1))
theorem aPi{best cost:Int}(h0:0≤best)(h1:best≤cost):0≤(2*((best+1)*65536)+(cost+1))/(2*(cost+1))∧(2*((best+1)*65536)+(cost+1))/(2*(cost+1))≤65536:=by refine⟨Int.ediv_nonneg oo oo,?_⟩;have:(2*((best+1)*65536)+(cost+1))/(2*(cost+1))<65537:=Int.ediv_lt_of_lt_mul oo oo;omega
theorem bCv(best cost times:Int):0≤qL best cost times∧qL best cost times≤65536:=by
 unfold qL;split
 ·omega
 split
 ·omega
 exact aPi oo oo
theorem bCu{best times:Int}(h0:0≤best)(h1:best≤4611686018427387904)(h2:1≤times∧times≤65536):qL best best times=65536:=by unfold qL;rw[if_neg oo];have h3:=Int.mul_le_mul_of_nonneg_left h2.1 (show 0≤best+1 by omega);rw[if_neg oo];rw[show 2*((best+1)*65536)+(best+1)=(best+1)+65536*(2*(best+1)) by omega,Int.add_mul_ediv_right _ _ oo,Int.ediv_eq_zero_of_lt oo oo];rfl
instance wof_cv(x:Int):CV prog 219 [.int .i64 x] (.agg (cH x).toArray) (aP .i64 x):=⟨fun hc w=>by
 have h1 : -9223372036854775808≤x∧x≤9223372036854775807:=hc;refine aJ func219 rfl ntmps219 rfl ⟨aE,.nil⟩ (fun n=>?_);simp only[aG];refine jG;refine bI;refine⟨aIn ?_ ?_,rfl⟩
 ·show x/9223372036854775808=_;omega
 ·rw[IntKind.wrap_u64]⟩
instance weight_cv(best cost times:Int):CV prog 234 [.int .i64 best,.int .i64 cost,.int .i64 times] (.int .i64 (qL best cost times)) (aP .i64 best∧aP .i64 cost∧aP .i64 times):=⟨fun hc w=>by
 obtain⟨⟨b1,b2⟩,⟨c1,c2⟩,t1,t2⟩:=hc;by_cases hbad:best<0∨cost<best∨times<1∨65536<times∨4611686018427387904<cost
 ·have e:qL best cost times=0:=if_pos hbad;rw[e];refine aJ func234 rfl ntmps234 rfl ⟨aE,.nil⟩ (fun n=>?_);simp only[aG];refine aB;all_goals exact aK rfl rfl (.nil _) ⟨rfl,rfl⟩
 ·have hq:=aPi (best:=best) (cost:=cost) oo oo;have e:qL best cost times=if (best+1)*times<cost then 0 else (2*((best+1)*65536)+(cost+1))/(2*(cost+1)):=if_neg hbad;rw[e];have iD:=aBh (best+1) 65536 (cost+1) 2;rw[vM oo]at iD;have iM:=mulW_any (best+1) times;generalize (2*((best+1)*65536)+(cost+1))/(2*(cost+1))=q at *;have iC:=wcmp_cv cost ((best+1)*times);have hcm:(0<wV cost ((best+1)*times))↔(best+1)*times<cost:=by
   unfold wV;split
   ·constructor<;>intro h<;>omega
   split
   ·constructor<;>intro h<;>omega
   ·constructor<;>intro h<;>omega
  generalize wV cost ((best+1)*times)=cm at *;generalize (best+1)*times=bt at *;refine aJ func234 rfl ntmps234 rfl ⟨aE,.nil⟩ (fun n=>?_);simp only[aG];refine aB
  ·rw[if_pos oo];exact aK rfl rfl (.nil _) ⟨rfl,rfl⟩
  ·rw[if_neg oo];exact aK rfl rfl (.nil _) ⟨rfl,rfl⟩⟩
def kO(far i k:Int):Nat:=(k+far).toNat*bU far+(i+far).toNat
theorem aDa{far i k:Int}(h:(-far≤i∧i≤far)∧(-far≤k∧k≤far)):(i,k)=pS far (kO far i k)∧kO far i k<bU far*bU far∧((kO far i k:Nat):Int)=(k+far)*(2*far+1)+i+far:=by
 have hs:(bU far:Int)=2*far+1:=by unfold bU;push_cast;omega
 have h1:(i+far).toNat<bU far:=oo;have h2:(k+far).toNat<bU far:=oo;refine⟨?_,?_,?_⟩
 ·unfold kO;rw[aH7 h1];refine Prod.ext ?_ ?_<;>dsimp only<;>omega
 ·unfold kO;have:=Nat.mul_le_mul_right (bU far) (show (k+far).toNat+1≤bU far from h2);rw[Nat.add_mul,Nat.one_mul]at this;omega
 ·unfold kO;push_cast;rw[hs,show (((k+far).toNat:Nat):Int)=k+far by omega,show (((i+far).toNat:Nat):Int)=i+far by omega];omega
theorem aN8{far:Int}(hf:0≤far){n:Nat}(h:n<bU far*bU far):kO far (pS far n).1 (pS far n).2=n:=by
 have hp:0<bU far:=by unfold bU;omega
 have h1:=Nat.mod_lt n hp;have h2:=Nat.div_lt_of_lt_mul h;unfold kO pS;dsimp only;have hc:∀m:Nat,((m:Int)-far+far).toNat=m:=fun m=>by omega
 rw[hc,hc,Nat.mul_comm];exact Nat.div_add_mod n (bU far)
def lY(N:Nat)(far best times:Int)(L:List kR):Nat→List Int
 | 0=>List.replicate N 0
 | i+1=>(lY N far best times L i).set (kO far (L.getD i default).i (L.getD i default).k) (qL best (L.getD i default).cost times)
section
variable {N:Nat} {far best times:Int} {L:List kR}
theorem aC0:∀i,(lY N far best times L i).length=N
 | 0=>by rw[lY,List.length_replicate]
 | i+1=>by rw[lY,List.length_set,aC0 i]
theorem aIp:∀i,Wt (lY N far best times L i)
 | 0=>fun j hj=>by
  rw[lY,List.getD_eq_getElem?_getD];rw[lY,List.length_replicate]at hj;rw[List.getElem?_replicate,if_pos hj];decide
 | i+1=>fun j hj=>by
  have ih:=aIp i;have hw:=bCv best (L.getD i default).cost times;rw[lY,List.length_set]at hj;rw[lY,List.getD_eq_getElem?_getD,List.getElem?_set];split
  ·rw[if_pos oo];exact hw
  ·have:=ih j hj
   rwa [List.getD_eq_getElem?_getD]at this
theorem aPp(hu:∀a b,a<L.length→b<L.length→kO far (L.getD a default).i (L.getD a default).k=kO far (L.getD b default).i (L.getD b default).k→(L.getD a default).cost=(L.getD b default).cost)(hN:∀a,a<L.length→kO far (L.getD a default).i (L.getD a default).k<N):∀i,i≤L.length→∀j,j<i→(lY N far best times L i).getD (kO far (L.getD j default).i (L.getD j default).k) 0=qL best (L.getD j default).cost times
 | i+1,hi,j,hj=>by
  rw[lY,List.getD_eq_getElem?_getD,List.getElem?_set];by_cases he:kO far (L.getD i default).i (L.getD i default).k=kO far (L.getD j default).i (L.getD j default).k
  ·rw[if_pos he,if_pos (by rw[aC0];exact hN i oo),hu i j oo oo he];rfl
  ·rw[if_neg he];have hji:j≠i:=by rintro rfl;exact he rfl
   have:=aPp hu hN i oo j oo
   rwa [List.getD_eq_getElem?_getD]at this
end
theorem aQl{W H:Nat}{f:List Int}{s:eK}{l:List cQ}{m:Int}(hf:0≤s.far){a b:Nat}(ha:a<(aY W H f s l m).length)(hb:b<(aY W H f s l m).length)(he:kO s.far ((aY W H f s l m).getD a default).i ((aY W H f s l m).getD a default).k=kO s.far ((aY W H f s l m).getD b default).i ((aY W H f s l m).getD b default).k):((aY W H f s l m).getD a default).cost=((aY W H f s l m).getD b default).cost:=by
 have key:∀a,a<(aY W H f s l m).length→∃n,n<bU s.far*bU s.far∧((aY W H f s l m).getD a default).i=(pS s.far n).1∧((aY W H f s l m).getD a default).k=(pS s.far n).2∧gS W H f s l m n=some (((aY W H f s l m).getD a default).cost,0):=fun a ha=>by
  have hx:(aY W H f s l m).getD a default∈aY W H f s l m:=by rw[List.getD_eq_getElem?_getD,List.getElem?_eq_getElem ha];exact List.getElem_mem _
  generalize (aY W H f s l m).getD a default=x at *;unfold aY at hx;split at hx
  ·exact aEz _ x hx
  ·cases hx
 obtain⟨n1,h1,e1,e2,e3⟩:=key a ha;obtain⟨n2,h2,g1,g2,g3⟩:=key b hb;rw[e1,e2,g1,g2,aN8 hf h1,aN8 hf h2]at he;subst he;rw[e3]at g3;injection g3 with g3;injection g3
theorem aTr{n i:Nat}(h:i<n):(cA (fun _=>1073741824/(n:Int)) n).getD i 0=1073741824/(n:Int):=mT (fun _=>1073741824/(n:Int)) h
theorem aKo{n:Nat}(h:0<n∧n≤4096):0<1073741824/(n:Int)∧1073741824/(n:Int)≤1073741824 :=
 ⟨Int.lt_of_lt_of_le od ((Int.le_ediv_iff_mul_le oo).2 (by omega:(1:Int)*n≤_)),Int.ediv_le_self _ od⟩
theorem aPh{p l:List Int}(hp:dI p)(hw:Wt l)(he:l.length=p.length)(hz:0<cK p l p.length):(∀i,i<p.length→0≤(jX p l).getD i 0∧(jX p l).getD i 0≤1073741824)∧1073741824-(p.length:Int)≤aM (jX p l) p.length∧aM (jX p l) p.length≤1073741824:=by
 refine⟨fun i hi=>?_,?_,?_⟩
 ·unfold jX;rw[mT _ hi];exact aPg hp hw he hz hi
 ·obtain⟨-,h2⟩:=aIk (p:=p) (l:=l) hz p.length;unfold jX;generalize aM (cA (lO p l (cK p l p.length)) p.length) p.length=S at *;generalize cK p l p.length=z at *;have h3:(1073741824-(p.length:Int))*z≤S*z:=by
   rw[Int.sub_mul,Int.mul_comm _ z];have e:(z-1)*(p.length:Int)=p.length*z-p.length:=by rw[Int.sub_mul,Int.one_mul,Int.mul_comm]
   omega
  exact Int.le_of_mul_le_mul_right h3 hz
 ·obtain⟨h1,-⟩:=aIk (p:=p) (l:=l) hz p.length;unfold jX;generalize aM (cA (lO p l (cK p l p.length)) p.length) p.length=S at *;generalize cK p l p.length=z at *;have h3:S*z≤1073741824*z:=oo;exact Int.le_of_mul_le_mul_right h3 hz
theorem bCt{p l:List Int}{z c:Int}(hz:0<z)(hc:0≤c)(hp:∀i,i<p.length→p.getD i 0=c){i k:Nat}(hi:i<p.length)(hk:k<p.length)(h:l.getD i 0≤l.getD k 0):lO p l z i≤lO p l z k:=by unfold lO;rw[hp i hi,hp k hk];refine Int.ediv_le_ediv hz ?_;have:=Int.mul_le_mul_of_nonneg_left h hc;omega
theorem bD1{p l:List Int}(hp:dI p)(hw:Wt l)(he:l.length=p.length){k:Nat}(hk:k<p.length)(h1:0<p.getD k 0)(h2:0<l.getD k 0):0<cK p l p.length:=by have h3:=aEi hp hw he p.length (Nat.le_refl _) hk;have:=Int.mul_pos h1 h2;omega
theorem aPo{p l:List Int}(h:∀i,l.getD i 0=0):∀n,cK p l n=0
 | 0=>rfl
 | n+1=>by rw[cK,aPo h n,h n];simp
instance (b:Nat):rN 1 b b:=⟨Nat.one_mul b⟩
instance (a b c:Int):tW cD [.int .i64 a,.int .i64 b,.int .i64 c] ⟨a,b,c⟩:=⟨rfl⟩
