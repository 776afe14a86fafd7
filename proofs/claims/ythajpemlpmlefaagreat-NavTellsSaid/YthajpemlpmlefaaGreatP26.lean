import Derived.Test.YthajpemlpmlefaaGreatP23
import Derived.Test.YthajpemlpmlefaaGreatP24
set_option maxHeartbeats 512000000
set_option maxRecDepth 4000
set_option linter.unusedVariables false
set_option linter.unusedSimpArgs false
namespace Go.Proofs.YthajpemlpmlefaaGreat
open Go.RowKit
def wgtF(best cost times:Int):Int:=if best<0∨cost<best∨times<1∨65536<times∨4611686018427387904<cost then 0 else if (best+1)*times<cost then 0 else (2*((best+1)*65536)+(cost+1))/(2*(cost+1))
theorem wgt_quo{best cost:Int}(h0:0≤best)(h1:best≤cost):0≤(2*((best+1)*65536)+(cost+1))/(2*(cost+1))∧(2*((best+1)*65536)+(cost+1))/(2*(cost+1))≤65536:=by
 refine⟨Int.ediv_nonneg (by omega) (by omega),?_⟩
 have:(2*((best+1)*65536)+(cost+1))/(2*(cost+1))<65537:=Int.ediv_lt_of_lt_mul (by omega) (by omega)
 omega
theorem wgt_in(best cost times:Int):0≤wgtF best cost times∧wgtF best cost times≤65536:=by
 unfold wgtF
 split
 ·omega
 split
 ·omega
 exact wgt_quo (by omega) (by omega)
theorem wgt_best{best times:Int}(h0:0≤best)(h1:best≤4611686018427387904)(h2:1≤times∧times≤65536):wgtF best best times=65536:=by
 unfold wgtF
 rw[if_neg (by omega)]
 have h3:=Int.mul_le_mul_of_nonneg_left h2.1 (show 0≤best+1 by omega)
 rw[if_neg (by omega)]
 rw[show 2*((best+1)*65536)+(best+1)=(best+1)+65536*(2*(best+1)) by omega,Int.add_mul_ediv_right _ _ (by omega),Int.ediv_eq_zero_of_lt (by omega) (by omega)]
 rfl
attribute [local irreducible] OJ J HdJ Code.wpIn wpListIn Oper.wpIn bodyPost CallsIn Does
instance wof_cv(x:Int):CV Tryz.prog 196 [.int .i64 x] (.agg (wideV x).toArray) (InR .i64 x):=⟨fun hc w=>by
 have h1 : -9223372036854775808≤x∧x≤9223372036854775807:=hc
 refine does_of Tryz.func196 rfl Tryz.ntmps196 rfl ⟨by simp,.nil⟩ (fun n=>?_)
 simp only[slots]
 refine z_gob
 refine z_ro
 refine⟨wideA_eq ?_ ?_,rfl⟩
 ·show x/9223372036854775808=_
  omega
 ·rw[IntKind.wrap_u64]⟩
instance weight_cv(best cost times:Int):CV Tryz.prog 183 [.int .i64 best,.int .i64 cost,.int .i64 times] (.int .i64 (wgtF best cost times)) (InR .i64 best∧InR .i64 cost∧InR .i64 times):=⟨fun hc w=>by
 obtain⟨⟨b1,b2⟩,⟨c1,c2⟩,t1,t2⟩:=hc
 by_cases hbad:best<0∨cost<best∨times<1∨65536<times∨4611686018427387904<cost
 ·have e:wgtF best cost times=0:=if_pos hbad
  rw[e]
  refine does_of Tryz.func183 rfl Tryz.ntmps183 rfl ⟨by simp,.nil⟩ (fun n=>?_)
  simp only[slots]
  refine z_tas
  all_goals exact j_out1 rfl rfl (.nil _) ⟨rfl,rfl⟩
 ·have hq:=wgt_quo (best:=best) (cost:=cost) (by omega) (by omega)
  have e:wgtF best cost times=if (best+1)*times<cost then 0 else (2*((best+1)*65536)+(cost+1))/(2*(cost+1)):=if_neg hbad
  rw[e]
  have iD:=muldiv_cv (best+1) 65536 (cost+1) 2
  rw[divV_near (by omega)]at iD
  have iM:=mulW_any (best+1) times
  generalize (2*((best+1)*65536)+(cost+1))/(2*(cost+1))=q at *
  have iC:=wcmp_cv cost ((best+1)*times)
  have hcm:(0<cmpZ cost ((best+1)*times))↔(best+1)*times<cost:=by
   unfold cmpZ
   split
   ·constructor<;>intro h<;>omega
   split
   ·constructor<;>intro h<;>omega
   ·constructor<;>intro h<;>omega
  generalize cmpZ cost ((best+1)*times)=cm at *
  generalize (best+1)*times=bt at *
  refine does_of Tryz.func183 rfl Tryz.ntmps183 rfl ⟨by simp,.nil⟩ (fun n=>?_)
  simp only[slots]
  refine z_tas
  ·rw[if_pos (by omega)]
   exact j_out1 rfl rfl (.nil _) ⟨rfl,rfl⟩
  ·rw[if_neg (by omega)]
   exact j_out1 rfl rfl (.nil _) ⟨rfl,rfl⟩⟩
def ixS(far i k:Int):Nat:=(k+far).toNat*sideN far+(i+far).toNat
theorem ixS_ok{far i k:Int}(h:(-far≤i∧i≤far)∧(-far≤k∧k≤far)):(i,k)=pS far (ixS far i k)∧ixS far i k<sideN far*sideN far∧((ixS far i k:Nat):Int)=(k+far)*(2*far+1)+i+far:=by
 have hs:(sideN far:Int)=2*far+1:=by unfold sideN;push_cast;omega
 have h1:(i+far).toNat<sideN far:=by omega
 have h2:(k+far).toNat<sideN far:=by omega
 refine⟨?_,?_,?_⟩
 ·unfold ixS
  rw[pS_at h1]
  refine Prod.ext ?_ ?_<;>dsimp only<;>omega
 ·unfold ixS
  have:=Nat.mul_le_mul_right (sideN far) (show (k+far).toNat+1≤sideN far from h2)
  rw[Nat.add_mul,Nat.one_mul]at this
  omega
 ·unfold ixS
  push_cast
  rw[hs,show (((k+far).toNat:Nat):Int)=k+far by omega,show (((i+far).toNat:Nat):Int)=i+far by omega]
  omega
theorem pS_ix{far:Int}(hf:0≤far){n:Nat}(h:n<sideN far*sideN far):ixS far (pS far n).1 (pS far n).2=n:=by
 have hp:0<sideN far:=by unfold sideN;omega
 have h1:=Nat.mod_lt n hp
 have h2:=Nat.div_lt_of_lt_mul h
 unfold ixS pS
 dsimp only
 have hc:∀m:Nat,((m:Int)-far+far).toNat=m:=fun m=>by omega
 rw[hc,hc,Nat.mul_comm]
 exact Nat.div_add_mod n (sideN far)
def wtTo(N:Nat)(far best times:Int)(L:List Stp):Nat→List Int
 | 0=>List.replicate N 0
 | i+1=>(wtTo N far best times L i).set (ixS far (L.getD i default).i (L.getD i default).k) (wgtF best (L.getD i default).cost times)
section
variable {N:Nat} {far best times:Int} {L:List Stp}
theorem wtTo_len:∀i,(wtTo N far best times L i).length=N
 | 0=>by rw[wtTo,List.length_replicate]
 | i+1=>by rw[wtTo,List.length_set,wtTo_len i]
theorem wtTo_in:∀i,Wt (wtTo N far best times L i)
 | 0=>fun j hj=>by
  rw[wtTo,List.getD_eq_getElem?_getD]
  rw[wtTo,List.length_replicate]at hj
  rw[List.getElem?_replicate,if_pos hj]
  decide
 | i+1=>fun j hj=>by
  have ih:=wtTo_in i
  have hw:=wgt_in best (L.getD i default).cost times
  rw[wtTo,List.length_set]at hj
  rw[wtTo,List.getD_eq_getElem?_getD,List.getElem?_set]
  split
  ·rw[if_pos (by omega)]
   exact hw
  ·have:=ih j hj
   rwa [List.getD_eq_getElem?_getD]at this
theorem wtTo_at(hu:∀a b,a<L.length→b<L.length→ixS far (L.getD a default).i (L.getD a default).k=ixS far (L.getD b default).i (L.getD b default).k→(L.getD a default).cost=(L.getD b default).cost)(hN:∀a,a<L.length→ixS far (L.getD a default).i (L.getD a default).k<N):∀i,i≤L.length→∀j,j<i→(wtTo N far best times L i).getD (ixS far (L.getD j default).i (L.getD j default).k) 0=wgtF best (L.getD j default).cost times
 | i+1,hi,j,hj=>by
  rw[wtTo,List.getD_eq_getElem?_getD,List.getElem?_set]
  by_cases he:ixS far (L.getD i default).i (L.getD i default).k=ixS far (L.getD j default).i (L.getD j default).k
  ·rw[if_pos he,if_pos (by rw[wtTo_len];exact hN i (by omega)),hu i j (by omega) (by omega) he]
   rfl
  ·rw[if_neg he]
   have hji:j≠i:=by rintro rfl;exact he rfl
   have:=wtTo_at hu hN i (by omega) j (by omega)
   rwa [List.getD_eq_getElem?_getD]at this
end
theorem all_same{W H:Nat}{f:List Int}{s:Sch}{l:List Smp}{m:Int}(hf:0≤s.far){a b:Nat}(ha:a<(allL W H f s l m).length)(hb:b<(allL W H f s l m).length)(he:ixS s.far ((allL W H f s l m).getD a default).i ((allL W H f s l m).getD a default).k=ixS s.far ((allL W H f s l m).getD b default).i ((allL W H f s l m).getD b default).k):((allL W H f s l m).getD a default).cost=((allL W H f s l m).getD b default).cost:=by
 have key:∀a,a<(allL W H f s l m).length→∃n,n<sideN s.far*sideN s.far∧((allL W H f s l m).getD a default).i=(pS s.far n).1∧((allL W H f s l m).getD a default).k=(pS s.far n).2∧gS W H f s l m n=some (((allL W H f s l m).getD a default).cost,0):=fun a ha=>by
  have hx:(allL W H f s l m).getD a default∈allL W H f s l m:=by
   rw[List.getD_eq_getElem?_getD,List.getElem?_eq_getElem ha]
   exact List.getElem_mem _
  generalize (allL W H f s l m).getD a default=x at *
  unfold allL at hx
  split at hx
  ·exact all_mem _ x hx
  ·cases hx
 obtain⟨n1,h1,e1,e2,e3⟩:=key a ha
 obtain⟨n2,h2,g1,g2,g3⟩:=key b hb
 rw[e1,e2,g1,g2,pS_ix hf h1,pS_ix hf h2]at he
 subst he
 rw[e3]at g3
 injection g3 with g3
 injection g3
theorem even_get{n i:Nat}(h:i<n):(tab (fun _=>1073741824/(n:Int)) n).getD i 0=1073741824/(n:Int):=tab_get (fun _=>1073741824/(n:Int)) h
theorem even_pos{n:Nat}(h:0<n∧n≤4096):0<1073741824/(n:Int)∧1073741824/(n:Int)≤1073741824 :=
 ⟨Int.lt_of_lt_of_le (by decide) ((Int.le_ediv_iff_mul_le (by omega)).2 (by omega:(1:Int)*n≤_)),Int.ediv_le_self _ (by decide)⟩
theorem wgh_ok{p l:List Int}(hp:Pos30 p)(hw:Wt l)(he:l.length=p.length)(hz:0<wsTo p l p.length):(∀i,i<p.length→0≤(wghL p l).getD i 0∧(wghL p l).getD i 0≤1073741824)∧1073741824-(p.length:Int)≤sumL (wghL p l) p.length∧sumL (wghL p l) p.length≤1073741824:=by
 refine⟨fun i hi=>?_,?_,?_⟩
 ·unfold wghL
  rw[tab_get _ hi]
  exact wgh_in hp hw he hz hi
 ·obtain⟨-,h2⟩:=wgh_sum (p:=p) (l:=l) hz p.length
  unfold wghL
  generalize sumL (tab (wgh p l (wsTo p l p.length)) p.length) p.length=S at *
  generalize wsTo p l p.length=z at *
  have h3:(1073741824-(p.length:Int))*z≤S*z:=by
   rw[Int.sub_mul,Int.mul_comm _ z]
   have e:(z-1)*(p.length:Int)=p.length*z-p.length:=by rw[Int.sub_mul,Int.one_mul,Int.mul_comm]
   omega
  exact Int.le_of_mul_le_mul_right h3 hz
 ·obtain⟨h1,-⟩:=wgh_sum (p:=p) (l:=l) hz p.length
  unfold wghL
  generalize sumL (tab (wgh p l (wsTo p l p.length)) p.length) p.length=S at *
  generalize wsTo p l p.length=z at *
  have h3:S*z≤1073741824*z:=by omega
  exact Int.le_of_mul_le_mul_right h3 hz
theorem wgh_most{p l:List Int}{z c:Int}(hz:0<z)(hc:0≤c)(hp:∀i,i<p.length→p.getD i 0=c){i k:Nat}(hi:i<p.length)(hk:k<p.length)(h:l.getD i 0≤l.getD k 0):wgh p l z i≤wgh p l z k:=by
 unfold wgh
 rw[hp i hi,hp k hk]
 refine Int.ediv_le_ediv hz ?_
 have:=Int.mul_le_mul_of_nonneg_left h hc
 omega
theorem ws_pos{p l:List Int}(hp:Pos30 p)(hw:Wt l)(he:l.length=p.length){k:Nat}(hk:k<p.length)(h1:0<p.getD k 0)(h2:0<l.getD k 0):0<wsTo p l p.length:=by
 have h3:=ws_ge hp hw he p.length (Nat.le_refl _) hk
 have:=Int.mul_pos h1 h2
 omega
theorem ws_zero{p l:List Int}(h:∀i,l.getD i 0=0):∀n,wsTo p l n=0
 | 0=>rfl
 | n+1=>by rw[wsTo,ws_zero h n,h n];simp
instance (b:Nat):NMul 1 b b:=⟨Nat.one_mul b⟩
instance (a b c:Int):UnE smpE [.int .i64 a,.int .i64 b,.int .i64 c] ⟨a,b,c⟩:=⟨rfl⟩
instance (priority:=2000) addW_any(x y:Int):CV Tryz.prog 184 [.agg (wideV x).toArray,.agg (wideV y).toArray] (.tuple #[.agg (wideV (x+y)).toArray,.bool true]) ((-42535295865117307932921825928971026432≤x∧x≤42535295865117307932921825928971026432)∧(-42535295865117307932921825928971026432≤y∧y≤42535295865117307932921825928971026432)):=⟨fun hc w=>by
 obtain⟨A,hA⟩:∃A,x/18446744073709551616=A:=⟨_,rfl⟩
 obtain⟨B,hB⟩:∃B,y/18446744073709551616=B:=⟨_,rfl⟩
 obtain⟨p,hp⟩:∃A,x%18446744073709551616=A:=⟨_,rfl⟩
 obtain⟨q,hq⟩:∃A,y%18446744073709551616=A:=⟨_,rfl⟩
 have pA:IntKind.u64.wrap A=A%18446744073709551616:=by rw[IntKind.wrap_u64]
 have pB:IntKind.u64.wrap B=B%18446744073709551616:=by rw[IntKind.wrap_u64]
 have pq:0≤p∧p<18446744073709551616:=by omega
 have qq:0≤q∧q<18446744073709551616:=by omega
 have hAB : -2305843009213693953≤A∧A≤2305843009213693953:=by omega
 have hBB : -2305843009213693953≤B∧B≤2305843009213693953:=by omega
 have e1:(x+y)/18446744073709551616=A+B+(p+q)/18446744073709551616:=by omega
 have e2:(x+y)%18446744073709551616=(p+q)%18446744073709551616:=by omega
 have e3:IntKind.i64.wrap ((IntKind.u64.wrap A+IntKind.u64.wrap B+(p+q+0)/18446744073709551616)%18446744073709551616)=A+B+(p+q)/18446744073709551616:=by
  rw[IntKind.wrap_i64,pA,pB,Int.add_zero]
  have:0≤(p+q)/18446744073709551616∧(p+q)/18446744073709551616≤1:=by omega
  omega
 have e4:0≤(p+q)/18446744073709551616∧(p+q)/18446744073709551616≤1:=by omega
 refine does_of Tryz.func184 rfl Tryz.ntmps184 rfl ⟨by simp,.nil⟩ (fun n=>?_)
 simp only[slots]
 simp only[wideV]
 rw[hA,hB,hp,hq]
 refine z_gob
 refine c_dre 1 rfl rfl (by decide) (by decide +kernel) ?_
 refine z_gob
 all_goals (refine z_ro;refine⟨wide_eq ?_ ?_ ?_,rfl⟩)
 all_goals first
  | (rw[e3,e1];done)
  | (rw[e2,Int.add_zero];done)
  | rfl
  | (rename_i h;rw[e3];rw[Classical.not_not]at h;simp only[beq_iff_eq,decide_eq_decide];omega)⟩
end Go.Proofs.YthajpemlpmlefaaGreat
