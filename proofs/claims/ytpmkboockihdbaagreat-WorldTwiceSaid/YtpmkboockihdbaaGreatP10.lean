import Derived.Test.YtpmkboockihdbaaGreatP07
set_option maxHeartbeats 512000000
set_option maxRecDepth 4000
set_option linter.unusedVariables false
set_option linter.unusedSimpArgs false
namespace Go.Proofs.YtpmkboockihdbaaGreat
open Go.RowKit _root_.Go.Proofs.Tryz
theorem aXo(a b k:Nat)(h:b<2^k)(h32:a*2^k+b<4294967296):bits .or .u32 ((a*2^k:Nat):Int) (b:Int)=((a*2^k+b:Nat):Int):=by
 have e:a*2^k ||| b=a*2^k+b:=by have:=Nat.two_pow_add_eq_or_of_lt h a;rw[Nat.mul_comm];exact this.symm
 show IntKind.u32.wrap ((BitVec.ofInt 32 ((a*2^k:Nat):Int) ||| BitVec.ofInt 32 (b:Int)).toNat:Int)=_;rw[BitVec.toNat_or,BitVec.ofInt_natCast,BitVec.ofInt_natCast,BitVec.toNat_ofNat,BitVec.toNat_ofNat,Nat.mod_eq_of_lt oo,Nat.mod_eq_of_lt oo,e,kZ];exact⟨oo,oo⟩
theorem xJ{ys:List Int}{p i j:Nat}(hi:fK ys p (List.replicate i true++[false]))(hj:fK ys p (List.replicate j true++[false])):i=j:=by
 rw[gZ,aGa,List.length_replicate,aG9]at hi hj;rcases Nat.lt_trichotomy i j with h|h|h
 ·have:=hj.1.2 i h;rw[hi.2.2]at this;cases this
 ·exact h
 ·have:=hi.1.2 j h;rw[hj.2.2]at this;cases this
theorem vI{n k:Nat}(h:gF n k<20):lZ n k=List.replicate (gF n k) true++[false]++jQ n k:=if_pos h
theorem vH{n k:Nat}(h:¬gF n k<20):lZ n k=List.replicate 20 true++[false]++jQ n 17:=if_neg h
theorem aSy{ys:List Int}{p n m k:Nat}(hn:n<131072)(hm:m<131072)(h1:fK ys p (lZ n k))(h2:fK ys p (lZ m k)):n=m:=by
 have key:∀n m:Nat,n<131072→m<131072→gF n k<20→¬gF m k<20→fK ys p (lZ n k)→fK ys p (lZ m k)→False:=by intro n m _ _ ha hb h1 h2;rw[vI ha,gZ]at h1;rw[vH hb,gZ]at h2;have:=xJ h1.1 h2.1;omega
 by_cases ha:gF n k<20<;>by_cases hb:gF m k<20
 ·rw[vI ha,gZ]at h1;rw[vI hb,gZ]at h2;have e:=xJ h1.1 h2.1;rw[e]at h1;have e1:=(pO.1 h1.2).2;have e2:=(pO.1 h2.2).2;rw[e2]at e1;unfold gF at e;rw[← Nat.div_add_mod n (2^k),← Nat.div_add_mod m (2^k),e,e1]
 ·exact(key n m hn hm ha hb h1 h2).elim
 ·exact(key m n hm hn hb ha h2 h1).elim
 ·rw[vH ha,gZ]at h1;rw[vH hb,gZ]at h2;have e1:=(pO.1 h1.2).2;have e2:=(pO.1 h2.2).2;rw[e2,Nat.mod_eq_of_lt oo,Nat.mod_eq_of_lt oo]at e1;exact e1.symm
attribute [local irreducible] OJ J bO Code.wpIn wpListIn Oper.wpIn bodyPost CallsIn aF
def aQ2(g c:Nat)(A:Option Addr)(ys:List Int)(p k:Nat)(v:Value)(S':List HE):Prop :=
 ∃(n p':Nat) (ok wr:Bool),v=.tuple #[.int .u32 n,.bool ok]∧S'=Rd g A c ys p' wr∧p'≤8*ys.length ∧
  ((ok=true∧wr=false∧n<131072∧p'=p+qI n k∧fK ys p (lZ n k))∨(ok=false∧∀m,m<131072→¬fK ys p (lZ m k)))
theorem aUh(g c:Nat)(A:Option Addr)(ys:List Int)(p k:Nat)(w:World)(hown:aZ (Rd g A c ys p false) w)(hm:ys.length<100000000)(hp:p≤8*ys.length)(hk:k≤16):
  aF prog 277 [.pointer (some ⟨g,0,none⟩),.int .i64 k] (Rd g A c ys p false) w (aQ2 g c A ys p k):=by
 refine aJ func277 rfl ntmps277 rfl hown (fun n=>?_);simp only[aG];refine bC;refine fS rfl rfl (aD.cons (.here _ _) (aD.cons (.here _ _) (aD.nil _))) rfl (fun w hw ho=>bAe g c A ys p 20 w ho hm hp oo) ?_;rintro v S' ⟨j,p1,wr1,rfl,rfl,hp1,hj⟩;refine bC;rcases hj with⟨rfl,hj,rfl,hat⟩ | ⟨rfl,hno⟩
 ·refine sZ (v:=.bool true) rfl rfl (aD.cons (.here _ _) (aD.cons (.here _ _) (aD.nil _))) (aA.refl _) rfl (fun w hw ho=>xN g c A ys _ false w ho) ?_;refine bC;have hk2:2^k≤65536:=by rw[show 65536=2^16 from rfl];exact Nat.pow_le_pow_right oo hk
  refine fQ rfl (fun h=>?_) (fun h=>?_)
  ·have hj2:j<20:=by have:=of_decide_eq_true h;omega
   have hjk:j*2^k≤19*65536:=Nat.mul_le_mul oo hk2;have hsh:shL j k=j*2^k:=rfl;refine bC;refine fS rfl rfl (aD.cons (.here _ _) (aD.cons (.here _ _) (aD.nil _))) rfl (fun w hw ho=>aHs g c A ys _ k false w ho hm hp1 oo) ?_;rintro v S' ⟨x,p2,wr2,rfl,hx,rfl,hp2,hx2⟩;refine bC;have hor:bits .or .u32 ((shL j k:Nat):Int) (x:Int)=((j*2^k+x:Nat):Int):=aXo j x k hx oo;have hq:gF (j*2^k+x) k=j:=by unfold gF;rw[Nat.mul_comm,Nat.mul_add_div (Nat.pow_pos oo),Nat.div_eq_of_lt hx,Nat.add_zero]
   have hrem:(j*2^k+x)%2^k=x:=by rw[Nat.mul_comm,Nat.mul_add_mod,Nat.mod_eq_of_lt hx]
   have hcode:lZ (j*2^k+x) k=List.replicate j true++[false]++jQ (j*2^k+x) k:=by rw[vI oo,hq]
   rcases hx2 with⟨rfl,-,rfl,hat2⟩ | ⟨rfl,hno2⟩
   ·refine sZ (v:=.bool true) rfl rfl (aD.cons (.here _ _) (aD.cons (.here _ _) (aD.nil _))) (aA.refl _) rfl (fun w hw ho=>xN g c A ys _ false w ho) ?_;refine bC;rw[hor];refine cM rfl rfl rfl (aA.refl _) ?_;by_cases hb:j*2^k+x<131072
    ·refine⟨_,_,true,false,by rw[decide_eq_true oo],rfl,hp2,.inl ⟨rfl,rfl,hb,?_,?_⟩⟩
     ·unfold qI;rw[hq,if_pos hj2];omega
     ·rw[hcode,gZ];refine⟨hat,?_⟩;rw[List.length_append,List.length_replicate,List.length_singleton,← Nat.add_assoc];refine pO.2 ⟨(pO.1 hat2).1,?_⟩;rw[hrem,(pO.1 hat2).2,Nat.mod_eq_of_lt hx]
    ·refine⟨_,_,false,false,by rw[decide_eq_false oo],rfl,hp2,.inr ⟨rfl,fun m hm2 hatm=>?_⟩⟩;by_cases hq2:gF m k<20
     ·rw[vI hq2,gZ]at hatm;have e:=xJ hat hatm.1;rw[← e,List.length_append,List.length_replicate,List.length_singleton,← Nat.add_assoc]at hatm;have e2:=(pO.1 hatm.2).2;rw[(pO.1 hat2).2,Nat.mod_eq_of_lt hx]at e2;apply hb;unfold gF at e;rw[e,e2,Nat.mul_comm,Nat.div_add_mod];exact hm2
     ·rw[vH hq2,gZ]at hatm;have e:=xJ hat hatm.1;omega
   ·refine sZ (v:=.bool false) rfl rfl (aD.cons (.here _ _) (aD.cons (.here _ _) (aD.nil _))) (aA.refl _) rfl (fun w hw ho=>xN g c A ys _ true w ho) ?_;refine bC;rw[hor];refine cM rfl rfl rfl (aA.refl _) ⟨_,_,false,true,rfl,rfl,hp2,.inr ⟨rfl,fun m hm2 hatm=>?_⟩⟩;by_cases hq2:gF m k<20
    ·rw[vI hq2,gZ]at hatm;have e:=xJ hat hatm.1;rw[← e,List.length_append,List.length_replicate,List.length_singleton,← Nat.add_assoc]at hatm;exact hno2 rfl _ hatm.2
    ·rw[vH hq2,gZ]at hatm;have e:=xJ hat hatm.1;omega
  ·have hj2:j=20:=by have:=of_decide_eq_false h;omega
   subst hj2;refine bC;refine fS rfl rfl (aD.cons (.here _ _) (aD.cons (.here _ _) (aD.nil _))) rfl (fun w hw ho=>aHs g c A ys _ 17 false w ho hm hp1 oo) ?_;rintro v S' ⟨x,p2,wr2,rfl,hx,rfl,hp2,hx2⟩;have hx3:x<131072:=by simpa using hx
   have hshx:=aI0 x k;refine bC;rcases hx2 with⟨rfl,-,rfl,hat2⟩ | ⟨rfl,hno2⟩
   ·refine oQ rfl od bD ?_;refine nN;refine hfk (v:=.bool true) rfl rfl (aD.cons (.here _ _) (aD.cons (.here _ _) (aD.nil _))) (aA.refl _) rfl (fun w hw ho=>xN g c A ys _ false w ho) ?_;refine nN;refine mE ?_;refine bC;refine cM rfl rfl rfl (aA.refl _) ?_;by_cases hb:gF x k<20
    ·refine⟨_,_,false,false,by rw[decide_eq_false oo],rfl,hp2,.inr ⟨rfl,fun m hm2 hatm=>?_⟩⟩;by_cases hq2:gF m k<20
     ·rw[vI hq2,gZ]at hatm;have e:=xJ hat hatm.1;omega
     ·rw[vH hq2,gZ]at hatm;rw[List.length_append,List.length_replicate,List.length_singleton,← Nat.add_assoc]at hatm;have e2:=(pO.1 hatm.2).2;rw[(pO.1 hat2).2,Nat.mod_eq_of_lt hx,Nat.mod_eq_of_lt hm2]at e2;subst e2;exact hq2 hb
    ·refine⟨_,_,true,false,by rw[decide_eq_true oo],rfl,hp2,.inl ⟨rfl,rfl,hx3,?_,?_⟩⟩
     ·unfold qI;rw[if_neg hb]
     ·rw[vH hb,gZ];refine⟨hat,?_⟩;rw[List.length_append,List.length_replicate,List.length_singleton,← Nat.add_assoc];exact hat2
   ·refine oQ rfl od bD ?_;refine nN;refine hfk (v:=.bool false) rfl rfl (aD.cons (.here _ _) (aD.cons (.here _ _) (aD.nil _))) (aA.refl _) rfl (fun w hw ho=>xN g c A ys _ true w ho) ?_;refine nN;refine mE ?_;refine bC;refine cM rfl rfl rfl (aA.refl _) ⟨_,_,false,true,rfl,rfl,hp2,.inr ⟨rfl,fun m hm2 hatm=>?_⟩⟩;by_cases hq2:gF m k<20
    ·rw[vI hq2,gZ]at hatm;have e:=xJ hat hatm.1;omega
    ·rw[vH hq2,gZ]at hatm;rw[List.length_append,List.length_replicate,List.length_singleton,← Nat.add_assoc]at hatm;exact hno2 rfl _ hatm.2
 ·refine sZ (v:=.bool false) rfl rfl (aD.cons (.here _ _) (aD.cons (.here _ _) (aD.nil _))) (aA.refl _) rfl (fun w hw ho=>xN g c A ys _ true w ho) ?_;refine bC;refine cM rfl rfl rfl (aA.refl _) ⟨0,_,false,true,rfl,rfl,hp1,.inr ⟨rfl,fun m hm2 hatm=>?_⟩⟩;by_cases hq2:gF m k<20
  ·rw[vI hq2,gZ]at hatm;exact hno _ oo hatm.1
  ·rw[vH hq2,gZ]at hatm;exact hno 20 oo hatm.1
def xY(xs:List Int):Prop:=∀i,i<xs.length→-2147483648≤xs.getD i 0∧xs.getD i 0≤2147483647
theorem aKw(A:Option Addr)(m c:Nat)(w:World):aF prog 210 [.slice A m c] [] w (fun v S'=>∃g,v=.func (.func 254) #[] #[.pointer (some ⟨g,0,none⟩)]∧S'=[.blk g 271 [.slice A m c]]):=by refine aJ func210 rfl ntmps210 rfl ⟨aE,.nil⟩ (fun n=>?_);simp only[aG];refine bC;exact aK rfl rfl (aA.refl _) ⟨_,rfl,rfl⟩
theorem aKv(l g c:Nat)(A:Option Addr)(xs:List Int)(w:World)(S:List HE)(I:Nat→List HE→Prop)(hown:aZ (.blk g 271 [.slice A xs.length c]::S) w)
  (hr:bF w (aV (.blk g 271 [.slice A xs.length c]::S)) A xs.length c 1 (aC .i32 xs)) (hx:xY xs) (hm:xs.length<1000000000) (h0:I 0 S)
  (hy:∀i S',i<xs.length→I i S'→∀w',aZ S' w'→rP prog l [.int .u32 (lG (xs.getD i 0):Nat)] S' w' (fun v S''=>v=.bool true∧I (i+1) S'')) :
  aF prog 254 [.func (.yield l) #[] #[],.pointer (some ⟨g,0,none⟩)] (.blk g 271 [.slice A xs.length c]::S) w (fun v S'=>v=.tuple #[]∧∃S1,S'=.blk g 271 [.slice A xs.length c]::S1∧I xs.length S1):=by
 refine aJ func254 rfl ntmps254 rfl hown (fun n=>?_);simp only[aG];refine bC;refine bT (X:=Nat×List HE) (fun x=>x.1≤xs.length∧I x.1 x.2) (fun x=>[(0,.func (.yield l) #[] #[]),(5,.slice A xs.length c),(6,.int .i64 xs.length),(7,.int .i64 x.1)]) (fun x=>.blk g 271 [.slice A xs.length c]::x.2) (fun x=>xs.length-x.1) (0,S) ⟨aE,h0⟩ ⟨rfl,rfl,rfl,rfl,trivial⟩ (aA.refl _) ?_;rintro⟨i,S1⟩ ⟨hi,hI⟩;simp only at hi hI ⊢;refine bC;refine fQ rfl (fun h=>?_) (fun h=>?_)
 ·have hlt:i<xs.length:=by have:=of_decide_eq_true h;omega
  have hxi:=hx i hlt;refine bC;refine bQ (v:=.int .u32 (lG (xs.getD i 0):Nat)) rfl rfl rfl (fun w hw=>aU8 _ w hxi.1 hxi.2) ?_;refine bC;refine lyl rfl rfl rfl (aD.all _ _) rfl (fun w hw ho=>hy i S1 hlt hI w ho) ?_;rintro v S2 ⟨rfl,hI2⟩;refine bC;exact aN (i+1,S2) ⟨by show i+1≤_;omega,hI2⟩ (by show _-(i+1)<_-i;omega) ⟨rfl,rfl,rfl,by simp[aH],trivial⟩ (aA.swap1 _ _)
 ·obtain rfl:i=xs.length:=by have:=of_decide_eq_false h;omega
  refine bC;exact oX rfl (aA.refl _) ⟨rfl,S1,rfl,hI⟩
def jM(xs:List Int)(k:Nat):Nat:=(xs.map fun x=>qI (lG x) k).sum
theorem aOi(n k:Nat)(hk:k≤16):qI n k≤38:=by unfold qI;split<;>omega
theorem aRc(xs:List Int)(k i:Nat)(h:i<xs.length):jM (xs.take (i+1)) k=jM (xs.take i) k+qI (lG (xs.getD i 0)) k:=by unfold jM;rw[List.take_succ_eq_append_getElem h,List.map_append,List.sum_append];simp[List.getD_eq_getElem?_getD,h]
theorem aAp(xs:List Int)(k:Nat)(hk:k≤16):jM xs k≤38*xs.length:=by
 unfold jM
 induction xs with
 | nil=>simp
 | cons x r ih =>
  have:=aOi (lG x) k hk;simp only[List.map_cons,List.sum_cons,List.length_cons];omega
def pK(xs:List Int):Nat→Nat
 | 0=>0
 | j+1=>if jM xs (j+1)<jM xs (pK xs j)then j+1 else pK xs j
def gQ(xs:List Int):Nat:=pK xs 16
theorem aR7(xs:List Int)(j:Nat):pK xs j≤j:=by
 induction j with
 | zero=>simp[pK]
 | succ j ih=>unfold pK;split<;>omega
def aAs(xs:List Int)(k:Nat):Int:=if k=0 then 0 else (pK xs (k-1):Nat)
def yV(xs:List Int)(k:Nat):Int:=if k=0 then -1 else (jM xs (pK xs (k-1)):Nat)
theorem aJb(A:Option Addr)(c:Nat)(xs:List Int)(w:World)(hr:bF w (aV []) A xs.length c 1 (aC .i32 xs))(hx:xY xs)(hm:xs.length<1000000):
  aF prog 208 [.slice A xs.length c] [] w (fun v S'=>v=.tuple #[.int .i64 (gQ xs),.int .i64 (jM xs (gQ xs))]∧S'=[]):=by
 refine vN func208 rfl ntmps208 rfl ⟨aE,.nil⟩ (fun n=>?_);simp only[aG];refine bC;refine aRw (X:=Nat×List Nat) (fun x=>x.1≤17) (fun x=>marks x.2) (fun x=>[(0,.slice A xs.length c),(4,.int .i64 (aAs xs x.1)),(5,.int .i64 (yV xs x.1)),(9,.int .i64 x.1)]) (fun x=>vW x.2) (fun x=>17-x.1) (0,[]) aE rfl ⟨rfl,rfl,rfl,rfl,trivial⟩ (.nil _) ?_;rintro⟨k,Ds⟩ hk;simp only at hk ⊢;refine bC;refine fQ rfl (fun h=>?_) (fun h=>?_)
 ·have hk2:k≤16:=by have:=of_decide_eq_true h;omega
  refine bC;refine fS rfl rfl (aD.nil _) rfl (fun w hw ho=>aKw _ _ _ w) ?_;rintro v S' ⟨g,rfl,rfl⟩;refine bC;rename_i b6 b7;refine aAv (S0:=[.blk g 271 [.slice A xs.length c],.blk b7 3 [.int .i64 0],.blk b6 3 [.int .i64 k]])
   (Rp:=fun D l pend S1=>pend=none∧S1=[.blk g 271 [.slice A xs.length c],.blk b7 3 [.int .i64 (jM xs k)],.blk b6 3 [.int .i64 k]]) rfl (aD.cons (.here _ _) (aD.cons (.here _ _) (aD.cons (.here _ _) (aD.nil _)))) (fun D l w1 LE hLE hw ho=>?_) ?_
  ·have hro:=hr.h.go hw (aD.cons (.there _ (.there _ (.here _ _))) (aD.cons (.here _ _) (aD.cons (.there _ (.here _ _)) (aD.cons (.there _ (.here _ _)) (aD.nil _)))));refine aF.conv (aKv l g c A xs w1 [LE,.blk b7 3 [.int .i64 0],.blk b6 3 [.int .i64 k]] (fun i S=>S=[LE,.blk b7 3 [.int .i64 (jM (xs.take i) k)],.blk b6 3 [.int .i64 k]])
    (ho.perm (List.Perm.swap _ _ _)) ⟨hro⟩ hx oo (by simp[jM]) ?_) (List.Perm.swap _ _ _) ?_
   ·rintro i S1 hi rfl w2 ho2;have hxi:=hx i hi;have hfl:=aKu _ hxi.1 hxi.2;have hsz:=aOi (lG (xs.getD i 0)) k hk2;have hb:=aAp (xs.take i) k hk2;have hbt:=aRc xs k i hi;rw[List.length_take]at hb;subst hLE;refine uU (N:=32) ho2 rfl aE (fun n=>?_);simp only[over];refine bC;refine aF6 ?_;refine bC;refine oQ rfl od bD ?_;refine nN;refine uH (v:=.int .i64 (qI (lG (xs.getD i 0)) k:Nat)) rfl rfl rfl (fun w hw=>bB0 _ k w hfl hk2) ?_;refine nN;refine mE ?_;refine bC;refine aF7 (aA.refl _) ⟨rfl,?_⟩;rw[hbt];simp
   ·rintro v S' ⟨-,S1,rfl,rfl⟩;rw[List.take_of_length_le (Nat.le_refl _)];exact⟨_,List.Perm.swap _ _ _,.ready,none,_,by rw[hLE],aE,rfl,rfl⟩
  ·rintro D l pend S1 ⟨rfl,rfl⟩;refine⟨fun _=>?_,fun c h=>by cases h⟩;refine bC;refine oW 22 rfl (fun h2=>?_) (fun h2=>?_)
   ·have hk0:k=0:=by
     have:=of_decide_eq_true h2;unfold yV at this;split at this
     ·assumption
     ·omega
    subst hk0;refine bC;exact aF8 (1,D::Ds) aE aE rfl ⟨rfl,rfl,rfl,rfl,trivial⟩ (aA.skip (aA.skip (aA.skip (aA.refl _) _) _) _)
   ·obtain⟨j,rfl⟩:∃j,k=j+1:=⟨k-1,by have:=of_decide_eq_false h2;unfold yV at this;split at this<;>omega⟩;have e1:yV xs (j+1)=(jM xs (pK xs j):Nat):=by simp[yV]
    have e2:aAs xs (j+1)=(pK xs j:Nat):=by simp[aAs]
    have hbt:pK xs (j+1)=if jM xs (j+1)<jM xs (pK xs j)then j+1 else pK xs j:=rfl;refine bC;refine fQ rfl (fun h3=>?_) (fun h3=>?_)
    ·have h4:jM xs (j+1)<jM xs (pK xs j):=by have:=of_decide_eq_true h3;omega
     rw[if_pos h4]at hbt;refine bC;refine aF8 (j+2,D::Ds) (by show j+2≤17;omega) (by show 17-(j+2)<17-(j+1);omega) rfl ⟨rfl,?_,?_,by simp[aH];omega,trivial⟩ (aA.skip (aA.skip (aA.skip (aA.refl _) _) _) _)
     ·simp[aH,aAs,hbt]
     ·simp[aH,yV,hbt]
    ·have h4:¬jM xs (j+1)<jM xs (pK xs j):=by have:=of_decide_eq_false h3;omega
     rw[if_neg h4]at hbt;refine bC;refine aF8 (j+2,D::Ds) (by show j+2≤17;omega) (by show 17-(j+2)<17-(j+1);omega) rfl ⟨rfl,?_,?_,by simp[aH];omega,trivial⟩ (aA.skip (aA.skip (aA.skip (aA.refl _) _) _) _)
     ·simp[aH,aAs,hbt]
     ·simp[aH,yV,hbt]
 ·obtain rfl:k=17:=by have:=of_decide_eq_false h;omega
  refine bC;exact aVk (S':=[]) rfl rfl rfl (aA.refl _) ⟨rfl,rfl⟩
