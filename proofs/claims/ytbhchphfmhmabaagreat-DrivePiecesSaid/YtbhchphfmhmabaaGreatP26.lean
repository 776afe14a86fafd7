import Derived.Test.YtbhchphfmhmabaaGreatP23
import Derived.Test.YtbhchphfmhmabaaGreatP24
set_option maxHeartbeats 512000000
set_option maxRecDepth 4000
set_option linter.unusedVariables false
set_option linter.unusedSimpArgs false
namespace Go.Proofs.YtbhchphfmhmabaaGreat
open Go.RowKit _root_.Go.Proofs.Tryz
def pI(best cost times:Int):Int:=if best<0∨cost<best∨times<1∨65536<times∨4611686018427387904<cost then 0 else if (best+1)*times<cost then 0 else (2*((best+1)*65536)+(cost+1))/(2*(cost+1))
theorem aOp{best cost:Int}(h0:0≤best)(h1:best≤cost):0≤(2*((best+1)*65536)+(cost+1))/(2*(cost+1))∧(2*((best+1)*65536)+(cost+1))/(2*(cost+1))≤65536:=by refine⟨Int.ediv_nonneg oo oo,?_⟩;have:(2*((best+1)*65536)+(cost+1))/(2*(cost+1))<65537:=Int.ediv_lt_of_lt_mul oo oo;omega
theorem bCn(best cost times:Int):0≤pI best cost times∧pI best cost times≤65536:=by
 unfold pI;split
 ·omega
 split
 ·omega
 exact aOp oo oo
theorem bCm{best times:Int}(h0:0≤best)(h1:best≤4611686018427387904)(h2:1≤times∧times≤65536):pI best best times=65536:=by unfold pI;rw[if_neg oo];have h3:=Int.mul_le_mul_of_nonneg_left h2.1 (show 0≤best+1 by omega);rw[if_neg oo];rw[show 2*((best+1)*65536)+(best+1)=(best+1)+65536*(2*(best+1)) by omega,Int.add_mul_ediv_right _ _ oo,Int.ediv_eq_zero_of_lt oo oo];rfl
attribute [local irreducible] OJ J bM Code.wpIn wpListIn Oper.wpIn bodyPost CallsIn aF
instance wof_cv(x:Int):CV prog 214 [.int .i64 x] (.agg (cA x).toArray) (bG .i64 x):=⟨fun hc w=>by
 have h1 : -9223372036854775808≤x∧x≤9223372036854775807:=hc;refine aJ func214 rfl ntmps214 rfl ⟨aE,.nil⟩ (fun n=>?_);simp only[aG];refine gR;refine bK;refine⟨aHw ?_ ?_,rfl⟩
 ·show x/9223372036854775808=_;omega
 ·rw[IntKind.wrap_u64]⟩
instance weight_cv(best cost times:Int):CV prog 196 [.int .i64 best,.int .i64 cost,.int .i64 times] (.int .i64 (pI best cost times)) (bG .i64 best∧bG .i64 cost∧bG .i64 times):=⟨fun hc w=>by
 obtain⟨⟨b1,b2⟩,⟨c1,c2⟩,t1,t2⟩:=hc;by_cases hbad:best<0∨cost<best∨times<1∨65536<times∨4611686018427387904<cost
 ·have e:pI best cost times=0:=if_pos hbad;rw[e];refine aJ func196 rfl ntmps196 rfl ⟨aE,.nil⟩ (fun n=>?_);simp only[aG];refine aB;all_goals exact aM rfl rfl (.nil _) ⟨rfl,rfl⟩
 ·have hq:=aOp (best:=best) (cost:=cost) oo oo;have e:pI best cost times=if (best+1)*times<cost then 0 else (2*((best+1)*65536)+(cost+1))/(2*(cost+1)):=if_neg hbad;rw[e];have iD:=aAv (best+1) 65536 (cost+1) 2;rw[yY oo]at iD;have iM:=mulW_any (best+1) times;generalize (2*((best+1)*65536)+(cost+1))/(2*(cost+1))=q at *;have iC:=wcmp_cv cost ((best+1)*times);have hcm:(0<wC cost ((best+1)*times))↔(best+1)*times<cost:=by
   unfold wC;split
   ·constructor<;>intro h<;>omega
   split
   ·constructor<;>intro h<;>omega
   ·constructor<;>intro h<;>omega
  generalize wC cost ((best+1)*times)=cm at *;generalize (best+1)*times=bt at *;refine aJ func196 rfl ntmps196 rfl ⟨aE,.nil⟩ (fun n=>?_);simp only[aG];refine aB
  ·rw[if_pos oo];exact aM rfl rfl (.nil _) ⟨rfl,rfl⟩
  ·rw[if_neg oo];exact aM rfl rfl (.nil _) ⟨rfl,rfl⟩⟩
def jO(far i k:Int):Nat:=(k+far).toNat*bR far+(i+far).toNat
theorem aCq{far i k:Int}(h:(-far≤i∧i≤far)∧(-far≤k∧k≤far)):(i,k)=pS far (jO far i k)∧jO far i k<bR far*bR far∧((jO far i k:Nat):Int)=(k+far)*(2*far+1)+i+far:=by
 have hs:(bR far:Int)=2*far+1:=by unfold bR;push_cast;omega
 have h1:(i+far).toNat<bR far:=oo;have h2:(k+far).toNat<bR far:=oo;refine⟨?_,?_,?_⟩
 ·unfold jO;rw[aGg h1];refine Prod.ext ?_ ?_<;>dsimp only<;>omega
 ·unfold jO;have:=Nat.mul_le_mul_right (bR far) (show (k+far).toNat+1≤bR far from h2);rw[Nat.add_mul,Nat.one_mul]at this;omega
 ·unfold jO;push_cast;rw[hs,show (((k+far).toNat:Nat):Int)=k+far by omega,show (((i+far).toNat:Nat):Int)=i+far by omega];omega
theorem aMf{far:Int}(hf:0≤far){n:Nat}(h:n<bR far*bR far):jO far (pS far n).1 (pS far n).2=n:=by
 have hp:0<bR far:=by unfold bR;omega
 have h1:=Nat.mod_lt n hp;have h2:=Nat.div_lt_of_lt_mul h;unfold jO pS;dsimp only;have hc:∀m:Nat,((m:Int)-far+far).toNat=m:=fun m=>by omega
 rw[hc,hc,Nat.mul_comm];exact Nat.div_add_mod n (bR far)
def lD(N:Nat)(far best times:Int)(L:List jW):Nat→List Int
 | 0=>List.replicate N 0
 | i+1=>(lD N far best times L i).set (jO far (L.getD i default).i (L.getD i default).k) (pI best (L.getD i default).cost times)
section
variable {N:Nat} {far best times:Int} {L:List jW}
theorem aBb:∀i,(lD N far best times L i).length=N
 | 0=>by rw[lD,List.length_replicate]
 | i+1=>by rw[lD,List.length_set,aBb i]
theorem aHy:∀i,Wt (lD N far best times L i)
 | 0=>fun j hj=>by
  rw[lD,List.getD_eq_getElem?_getD];rw[lD,List.length_replicate]at hj;rw[List.getElem?_replicate,if_pos hj];decide
 | i+1=>fun j hj=>by
  have ih:=aHy i;have hw:=bCn best (L.getD i default).cost times;rw[lD,List.length_set]at hj;rw[lD,List.getD_eq_getElem?_getD,List.getElem?_set];split
  ·rw[if_pos oo];exact hw
  ·have:=ih j hj
   rwa [List.getD_eq_getElem?_getD]at this
theorem aOx(hu:∀a b,a<L.length→b<L.length→jO far (L.getD a default).i (L.getD a default).k=jO far (L.getD b default).i (L.getD b default).k→(L.getD a default).cost=(L.getD b default).cost)(hN:∀a,a<L.length→jO far (L.getD a default).i (L.getD a default).k<N):∀i,i≤L.length→∀j,j<i→(lD N far best times L i).getD (jO far (L.getD j default).i (L.getD j default).k) 0=pI best (L.getD j default).cost times
 | i+1,hi,j,hj=>by
  rw[lD,List.getD_eq_getElem?_getD,List.getElem?_set];by_cases he:jO far (L.getD i default).i (L.getD i default).k=jO far (L.getD j default).i (L.getD j default).k
  ·rw[if_pos he,if_pos (by rw[aBb];exact hN i oo),hu i j oo oo he];rfl
  ·rw[if_neg he];have hji:j≠i:=by rintro rfl;exact he rfl
   have:=aOx hu hN i oo j oo
   rwa [List.getD_eq_getElem?_getD]at this
end
theorem aPv{W H:Nat}{f:List Int}{s:dV}{l:List cK}{m:Int}(hf:0≤s.far){a b:Nat}(ha:a<(aT W H f s l m).length)(hb:b<(aT W H f s l m).length)(he:jO s.far ((aT W H f s l m).getD a default).i ((aT W H f s l m).getD a default).k=jO s.far ((aT W H f s l m).getD b default).i ((aT W H f s l m).getD b default).k):((aT W H f s l m).getD a default).cost=((aT W H f s l m).getD b default).cost:=by
 have key:∀a,a<(aT W H f s l m).length→∃n,n<bR s.far*bR s.far∧((aT W H f s l m).getD a default).i=(pS s.far n).1∧((aT W H f s l m).getD a default).k=(pS s.far n).2∧gS W H f s l m n=some (((aT W H f s l m).getD a default).cost,0):=fun a ha=>by
  have hx:(aT W H f s l m).getD a default∈aT W H f s l m:=by rw[List.getD_eq_getElem?_getD,List.getElem?_eq_getElem ha];exact List.getElem_mem _
  generalize (aT W H f s l m).getD a default=x at *;unfold aT at hx;split at hx
  ·exact aEe _ x hx
  ·cases hx
 obtain⟨n1,h1,e1,e2,e3⟩:=key a ha;obtain⟨n2,h2,g1,g2,g3⟩:=key b hb;rw[e1,e2,g1,g2,aMf hf h1,aMf hf h2]at he;subst he;rw[e3]at g3;injection g3 with g3;injection g3
theorem aT5{n i:Nat}(h:i<n):(dO (fun _=>1073741824/(n:Int)) n).getD i 0=1073741824/(n:Int):=nB (fun _=>1073741824/(n:Int)) h
theorem aJx{n:Nat}(h:0<n∧n≤4096):0<1073741824/(n:Int)∧1073741824/(n:Int)≤1073741824 :=
 ⟨Int.lt_of_lt_of_le od ((Int.le_ediv_iff_mul_le oo).2 (by omega:(1:Int)*n≤_)),Int.ediv_le_self _ od⟩
theorem aOn{p l:List Int}(hp:dY p)(hw:Wt l)(he:l.length=p.length)(hz:0<cB p l p.length):(∀i,i<p.length→0≤(jC p l).getD i 0∧(jC p l).getD i 0≤1073741824)∧1073741824-(p.length:Int)≤aL (jC p l) p.length∧aL (jC p l) p.length≤1073741824:=by
 refine⟨fun i hi=>?_,?_,?_⟩
 ·unfold jC;rw[nB _ hi];exact aOm hp hw he hz hi
 ·obtain⟨-,h2⟩:=aHv (p:=p) (l:=l) hz p.length;unfold jC;generalize aL (dO (kS p l (cB p l p.length)) p.length) p.length=S at *;generalize cB p l p.length=z at *;have h3:(1073741824-(p.length:Int))*z≤S*z:=by
   rw[Int.sub_mul,Int.mul_comm _ z];have e:(z-1)*(p.length:Int)=p.length*z-p.length:=by rw[Int.sub_mul,Int.one_mul,Int.mul_comm]
   omega
  exact Int.le_of_mul_le_mul_right h3 hz
 ·obtain⟨h1,-⟩:=aHv (p:=p) (l:=l) hz p.length;unfold jC;generalize aL (dO (kS p l (cB p l p.length)) p.length) p.length=S at *;generalize cB p l p.length=z at *;have h3:S*z≤1073741824*z:=oo;exact Int.le_of_mul_le_mul_right h3 hz
theorem bCl{p l:List Int}{z c:Int}(hz:0<z)(hc:0≤c)(hp:∀i,i<p.length→p.getD i 0=c){i k:Nat}(hi:i<p.length)(hk:k<p.length)(h:l.getD i 0≤l.getD k 0):kS p l z i≤kS p l z k:=by unfold kS;rw[hp i hi,hp k hk];refine Int.ediv_le_ediv hz ?_;have:=Int.mul_le_mul_of_nonneg_left h hc;omega
theorem bCt{p l:List Int}(hp:dY p)(hw:Wt l)(he:l.length=p.length){k:Nat}(hk:k<p.length)(h1:0<p.getD k 0)(h2:0<l.getD k 0):0<cB p l p.length:=by have h3:=aDw hp hw he p.length (Nat.le_refl _) hk;have:=Int.mul_pos h1 h2;omega
theorem aOw{p l:List Int}(h:∀i,l.getD i 0=0):∀n,cB p l n=0
 | 0=>rfl
 | n+1=>by rw[cB,aOw h n,h n];simp
instance (b:Nat):rL 1 b b:=⟨Nat.one_mul b⟩
instance (a b c:Int):tD bV [.int .i64 a,.int .i64 b,.int .i64 c] ⟨a,b,c⟩:=⟨rfl⟩
instance (priority:=2000) addW_any(x y:Int):CV prog 202 [.agg (cA x).toArray,.agg (cA y).toArray] (.tuple #[.agg (cA (x+y)).toArray,.bool true]) ((-42535295865117307932921825928971026432≤x∧x≤42535295865117307932921825928971026432)∧(-42535295865117307932921825928971026432≤y∧y≤42535295865117307932921825928971026432)):=⟨fun hc w=>by
 obtain⟨A,hA⟩:∃A,x/18446744073709551616=A:=⟨_,rfl⟩;obtain⟨B,hB⟩:∃B,y/18446744073709551616=B:=⟨_,rfl⟩;obtain⟨p,hp⟩:∃A,x%18446744073709551616=A:=⟨_,rfl⟩;obtain⟨q,hq⟩:∃A,y%18446744073709551616=A:=⟨_,rfl⟩;have pA:IntKind.u64.wrap A=A%18446744073709551616:=by rw[IntKind.wrap_u64]
 have pB:IntKind.u64.wrap B=B%18446744073709551616:=by rw[IntKind.wrap_u64]
 have pq:0≤p∧p<18446744073709551616:=oo;have qq:0≤q∧q<18446744073709551616:=oo;have hAB : -2305843009213693953≤A∧A≤2305843009213693953:=oo;have hBB : -2305843009213693953≤B∧B≤2305843009213693953:=oo;have e1:(x+y)/18446744073709551616=A+B+(p+q)/18446744073709551616:=oo;have e2:(x+y)%18446744073709551616=(p+q)%18446744073709551616:=oo;have e3:IntKind.i64.wrap ((IntKind.u64.wrap A+IntKind.u64.wrap B+(p+q+0)/18446744073709551616)%18446744073709551616)=A+B+(p+q)/18446744073709551616:=by rw[IntKind.wrap_i64,pA,pB,Int.add_zero];have:0≤(p+q)/18446744073709551616∧(p+q)/18446744073709551616≤1:=oo;omega
 have e4:0≤(p+q)/18446744073709551616∧(p+q)/18446744073709551616≤1:=oo;refine aJ func202 rfl ntmps202 rfl ⟨aE,.nil⟩ (fun n=>?_);simp only[aG];simp only[cA];rw[hA,hB,hp,hq];refine gR;refine aIv 1 rfl rfl od bD ?_;refine gR;all_goals (refine bK;refine⟨aOr ?_ ?_ ?_,rfl⟩)
 all_goals first
  | (rw[e3,e1];done)
  | (rw[e2,Int.add_zero];done)
  | rfl
  | (rename_i h;rw[e3];rw[Classical.not_not]at h;simp only[beq_iff_eq,decide_eq_decide];omega)⟩
