import Derived.Test.YtbhchphfmhmabaaGreatP07
set_option maxHeartbeats 512000000
set_option maxRecDepth 4000
set_option linter.unusedVariables false
set_option linter.unusedSimpArgs false
namespace Go.Proofs.YtbhchphfmhmabaaGreat
open Go.RowKit _root_.Go.Proofs.Tryz
theorem aXa(a b k:Nat)(h:b<2^k)(h32:a*2^k+b<4294967296):bits .or .u32 ((a*2^k:Nat):Int) (b:Int)=((a*2^k+b:Nat):Int):=by
 have e:a*2^k ||| b=a*2^k+b:=by have:=Nat.two_pow_add_eq_or_of_lt h a;rw[Nat.mul_comm];exact this.symm
 show IntKind.u32.wrap ((BitVec.ofInt 32 ((a*2^k:Nat):Int) ||| BitVec.ofInt 32 (b:Int)).toNat:Int)=_;rw[BitVec.toNat_or,BitVec.ofInt_natCast,BitVec.ofInt_natCast,BitVec.toNat_ofNat,BitVec.toNat_ofNat,Nat.mod_eq_of_lt oo,Nat.mod_eq_of_lt oo,e,mJ];exact⟨oo,oo⟩
theorem wO{ys:List Int}{p i j:Nat}(hi:eX ys p (List.replicate i true++[false]))(hj:eX ys p (List.replicate j true++[false])):i=j:=by
 rw[gG,aFo,List.length_replicate,aFn]at hi hj;rcases Nat.lt_trichotomy i j with h|h|h
 ·have:=hj.1.2 i h;rw[hi.2.2]at this;cases this
 ·exact h
 ·have:=hi.1.2 j h;rw[hj.2.2]at this;cases this
theorem uN{n k:Nat}(h:fL n k<20):lE n k=List.replicate (fL n k) true++[false]++gW n k:=if_pos h
theorem uM{n k:Nat}(h:¬fL n k<20):lE n k=List.replicate 20 true++[false]++gW n 17:=if_neg h
theorem aSa{ys:List Int}{p n m k:Nat}(hn:n<131072)(hm:m<131072)(h1:eX ys p (lE n k))(h2:eX ys p (lE m k)):n=m:=by
 have key:∀n m:Nat,n<131072→m<131072→fL n k<20→¬fL m k<20→eX ys p (lE n k)→eX ys p (lE m k)→False:=by intro n m _ _ ha hb h1 h2;rw[uN ha,gG]at h1;rw[uM hb,gG]at h2;have:=wO h1.1 h2.1;omega
 by_cases ha:fL n k<20<;>by_cases hb:fL m k<20
 ·rw[uN ha,gG]at h1;rw[uN hb,gG]at h2;have e:=wO h1.1 h2.1;rw[e]at h1;have e1:=(oG.1 h1.2).2;have e2:=(oG.1 h2.2).2;rw[e2]at e1;unfold fL at e;rw[← Nat.div_add_mod n (2^k),← Nat.div_add_mod m (2^k),e,e1]
 ·exact(key n m hn hm ha hb h1 h2).elim
 ·exact(key m n hm hn hb ha h2 h1).elim
 ·rw[uM ha,gG]at h1;rw[uM hb,gG]at h2;have e1:=(oG.1 h1.2).2;have e2:=(oG.1 h2.2).2;rw[e2,Nat.mod_eq_of_lt oo,Nat.mod_eq_of_lt oo]at e1;exact e1.symm
attribute [local irreducible] OJ J bM Code.wpIn wpListIn Oper.wpIn bodyPost CallsIn aF
def aPa(g c:Nat)(A:Option Addr)(ys:List Int)(p k:Nat)(v:Value)(S':List HE):Prop :=
 ∃(n p':Nat) (ok wr:Bool),v=.tuple #[.int .u32 n,.bool ok]∧S'=Rd g A c ys p' wr∧p'≤8*ys.length ∧
  ((ok=true∧wr=false∧n<131072∧p'=p+pE n k∧eX ys p (lE n k))∨(ok=false∧∀m,m<131072→¬eX ys p (lE m k)))
theorem aTw(g c:Nat)(A:Option Addr)(ys:List Int)(p k:Nat)(w:World)(hown:aZ (Rd g A c ys p false) w)(hm:ys.length<100000000)(hp:p≤8*ys.length)(hk:k≤16):
  aF prog 255 [.pointer (some ⟨g,0,none⟩),.int .i64 k] (Rd g A c ys p false) w (aPa g c A ys p k):=by
 refine aJ func255 rfl ntmps255 rfl hown (fun n=>?_);simp only[aG];refine aX;refine fO rfl rfl (aC.cons (.here _ _) (aC.cons (.here _ _) (aC.nil _))) rfl (fun w hw ho=>bA3 g c A ys p 20 w ho hm hp oo) ?_;rintro v S' ⟨j,p1,wr1,rfl,rfl,hp1,hj⟩;refine aX;rcases hj with⟨rfl,hj,rfl,hat⟩ | ⟨rfl,hno⟩
 ·refine sC (v:=.bool true) rfl rfl (aC.cons (.here _ _) (aC.cons (.here _ _) (aC.nil _))) (aA.refl _) rfl (fun w hw ho=>wS g c A ys _ false w ho) ?_;refine aX;have hk2:2^k≤65536:=by rw[show 65536=2^16 from rfl];exact Nat.pow_le_pow_right oo hk
  refine fB rfl (fun h=>?_) (fun h=>?_)
  ·have hj2:j<20:=by have:=of_decide_eq_true h;omega
   have hjk:j*2^k≤19*65536:=Nat.mul_le_mul oo hk2;have hsh:zQ j k=j*2^k:=rfl;refine aX;refine fO rfl rfl (aC.cons (.here _ _) (aC.cons (.here _ _) (aC.nil _))) rfl (fun w hw ho=>aH1 g c A ys _ k false w ho hm hp1 oo) ?_;rintro v S' ⟨x,p2,wr2,rfl,hx,rfl,hp2,hx2⟩;refine aX;have hor:bits .or .u32 ((zQ j k:Nat):Int) (x:Int)=((j*2^k+x:Nat):Int):=aXa j x k hx oo;have hq:fL (j*2^k+x) k=j:=by unfold fL;rw[Nat.mul_comm,Nat.mul_add_div (Nat.pow_pos oo),Nat.div_eq_of_lt hx,Nat.add_zero]
   have hrem:(j*2^k+x)%2^k=x:=by rw[Nat.mul_comm,Nat.mul_add_mod,Nat.mod_eq_of_lt hx]
   have hcode:lE (j*2^k+x) k=List.replicate j true++[false]++gW (j*2^k+x) k:=by rw[uN oo,hq]
   rcases hx2 with⟨rfl,-,rfl,hat2⟩ | ⟨rfl,hno2⟩
   ·refine sC (v:=.bool true) rfl rfl (aC.cons (.here _ _) (aC.cons (.here _ _) (aC.nil _))) (aA.refl _) rfl (fun w hw ho=>wS g c A ys _ false w ho) ?_;refine aX;rw[hor];refine cY rfl rfl rfl (aA.refl _) ?_;by_cases hb:j*2^k+x<131072
    ·refine⟨_,_,true,false,by rw[decide_eq_true oo],rfl,hp2,.inl ⟨rfl,rfl,hb,?_,?_⟩⟩
     ·unfold pE;rw[hq,if_pos hj2];omega
     ·rw[hcode,gG];refine⟨hat,?_⟩;rw[List.length_append,List.length_replicate,List.length_singleton,← Nat.add_assoc];refine oG.2 ⟨(oG.1 hat2).1,?_⟩;rw[hrem,(oG.1 hat2).2,Nat.mod_eq_of_lt hx]
    ·refine⟨_,_,false,false,by rw[decide_eq_false oo],rfl,hp2,.inr ⟨rfl,fun m hm2 hatm=>?_⟩⟩;by_cases hq2:fL m k<20
     ·rw[uN hq2,gG]at hatm;have e:=wO hat hatm.1;rw[← e,List.length_append,List.length_replicate,List.length_singleton,← Nat.add_assoc]at hatm;have e2:=(oG.1 hatm.2).2;rw[(oG.1 hat2).2,Nat.mod_eq_of_lt hx]at e2;apply hb;unfold fL at e;rw[e,e2,Nat.mul_comm,Nat.div_add_mod];exact hm2
     ·rw[uM hq2,gG]at hatm;have e:=wO hat hatm.1;omega
   ·refine sC (v:=.bool false) rfl rfl (aC.cons (.here _ _) (aC.cons (.here _ _) (aC.nil _))) (aA.refl _) rfl (fun w hw ho=>wS g c A ys _ true w ho) ?_;refine aX;rw[hor];refine cY rfl rfl rfl (aA.refl _) ⟨_,_,false,true,rfl,rfl,hp2,.inr ⟨rfl,fun m hm2 hatm=>?_⟩⟩;by_cases hq2:fL m k<20
    ·rw[uN hq2,gG]at hatm;have e:=wO hat hatm.1;rw[← e,List.length_append,List.length_replicate,List.length_singleton,← Nat.add_assoc]at hatm;exact hno2 rfl _ hatm.2
    ·rw[uM hq2,gG]at hatm;have e:=wO hat hatm.1;omega
  ·have hj2:j=20:=by have:=of_decide_eq_false h;omega
   subst hj2;refine aX;refine fO rfl rfl (aC.cons (.here _ _) (aC.cons (.here _ _) (aC.nil _))) rfl (fun w hw ho=>aH1 g c A ys _ 17 false w ho hm hp1 oo) ?_;rintro v S' ⟨x,p2,wr2,rfl,hx,rfl,hp2,hx2⟩;have hx3:x<131072:=by simpa using hx
   have hshx:=aHb x k;refine aX;rcases hx2 with⟨rfl,-,rfl,hat2⟩ | ⟨rfl,hno2⟩
   ·refine nI rfl od bD ?_;refine mK;refine hfk (v:=.bool true) rfl rfl (aC.cons (.here _ _) (aC.cons (.here _ _) (aC.nil _))) (aA.refl _) rfl (fun w hw ho=>wS g c A ys _ false w ho) ?_;refine mK;refine lH ?_;refine aX;refine cY rfl rfl rfl (aA.refl _) ?_;by_cases hb:fL x k<20
    ·refine⟨_,_,false,false,by rw[decide_eq_false oo],rfl,hp2,.inr ⟨rfl,fun m hm2 hatm=>?_⟩⟩;by_cases hq2:fL m k<20
     ·rw[uN hq2,gG]at hatm;have e:=wO hat hatm.1;omega
     ·rw[uM hq2,gG]at hatm;rw[List.length_append,List.length_replicate,List.length_singleton,← Nat.add_assoc]at hatm;have e2:=(oG.1 hatm.2).2;rw[(oG.1 hat2).2,Nat.mod_eq_of_lt hx,Nat.mod_eq_of_lt hm2]at e2;subst e2;exact hq2 hb
    ·refine⟨_,_,true,false,by rw[decide_eq_true oo],rfl,hp2,.inl ⟨rfl,rfl,hx3,?_,?_⟩⟩
     ·unfold pE;rw[if_neg hb]
     ·rw[uM hb,gG];refine⟨hat,?_⟩;rw[List.length_append,List.length_replicate,List.length_singleton,← Nat.add_assoc];exact hat2
   ·refine nI rfl od bD ?_;refine mK;refine hfk (v:=.bool false) rfl rfl (aC.cons (.here _ _) (aC.cons (.here _ _) (aC.nil _))) (aA.refl _) rfl (fun w hw ho=>wS g c A ys _ true w ho) ?_;refine mK;refine lH ?_;refine aX;refine cY rfl rfl rfl (aA.refl _) ⟨_,_,false,true,rfl,rfl,hp2,.inr ⟨rfl,fun m hm2 hatm=>?_⟩⟩;by_cases hq2:fL m k<20
    ·rw[uN hq2,gG]at hatm;have e:=wO hat hatm.1;omega
    ·rw[uM hq2,gG]at hatm;rw[List.length_append,List.length_replicate,List.length_singleton,← Nat.add_assoc]at hatm;exact hno2 rfl _ hatm.2
 ·refine sC (v:=.bool false) rfl rfl (aC.cons (.here _ _) (aC.cons (.here _ _) (aC.nil _))) (aA.refl _) rfl (fun w hw ho=>wS g c A ys _ true w ho) ?_;refine aX;refine cY rfl rfl rfl (aA.refl _) ⟨0,_,false,true,rfl,rfl,hp1,.inr ⟨rfl,fun m hm2 hatm=>?_⟩⟩;by_cases hq2:fL m k<20
  ·rw[uN hq2,gG]at hatm;exact hno _ oo hatm.1
  ·rw[uM hq2,gG]at hatm;exact hno 20 oo hatm.1
def xE(xs:List Int):Prop:=∀i,i<xs.length→-2147483648≤xs.getD i 0∧xs.getD i 0≤2147483647
theorem aK6(A:Option Addr)(m c:Nat)(w:World):aF prog 181 [.slice A m c] [] w (fun v S'=>∃g,v=.func (.func 222) #[] #[.pointer (some ⟨g,0,none⟩)]∧S'=[.blk g 167 [.slice A m c]]):=by refine aJ func181 rfl ntmps181 rfl ⟨aE,.nil⟩ (fun n=>?_);simp only[aG];refine aX;exact aM rfl rfl (aA.refl _) ⟨_,rfl,rfl⟩
theorem aK5(l g c:Nat)(A:Option Addr)(xs:List Int)(w:World)(S:List HE)(I:Nat→List HE→Prop)(hown:aZ (.blk g 167 [.slice A xs.length c]::S) w)
  (hr:bP w (bB (.blk g 167 [.slice A xs.length c]::S)) A xs.length c 1 (aD .i32 xs)) (hx:xE xs) (hm:xs.length<1000000000) (h0:I 0 S)
  (hy:∀i S',i<xs.length→I i S'→∀w',aZ S' w'→qK prog l [.int .u32 (kK (xs.getD i 0):Nat)] S' w' (fun v S''=>v=.bool true∧I (i+1) S'')) :
  aF prog 222 [.func (.yield l) #[] #[],.pointer (some ⟨g,0,none⟩)] (.blk g 167 [.slice A xs.length c]::S) w (fun v S'=>v=.tuple #[]∧∃S1,S'=.blk g 167 [.slice A xs.length c]::S1∧I xs.length S1):=by
 refine aJ func222 rfl ntmps222 rfl hown (fun n=>?_);simp only[aG];refine aX;refine cG (X:=Nat×List HE) (fun x=>x.1≤xs.length∧I x.1 x.2) (fun x=>[(0,.func (.yield l) #[] #[]),(5,.slice A xs.length c),(6,.int .i64 xs.length),(7,.int .i64 x.1)]) (fun x=>.blk g 167 [.slice A xs.length c]::x.2) (fun x=>xs.length-x.1) (0,S) ⟨aE,h0⟩ ⟨rfl,rfl,rfl,rfl,trivial⟩ (aA.refl _) ?_;rintro⟨i,S1⟩ ⟨hi,hI⟩;simp only at hi hI ⊢;refine aX;refine fB rfl (fun h=>?_) (fun h=>?_)
 ·have hlt:i<xs.length:=by have:=of_decide_eq_true h;omega
  have hxi:=hx i hlt;refine aX;refine bU (v:=.int .u32 (kK (xs.getD i 0):Nat)) rfl rfl rfl (fun w hw=>aTm _ w hxi.1 hxi.2) ?_;refine aX;refine lyl rfl rfl rfl (aC.all _ _) rfl (fun w hw ho=>hy i S1 hlt hI w ho) ?_;rintro v S2 ⟨rfl,hI2⟩;refine aX;exact aR (i+1,S2) ⟨by show i+1≤_;omega,hI2⟩ (by show _-(i+1)<_-i;omega) ⟨rfl,rfl,rfl,by simp[aI],trivial⟩ (aA.swap1 _ _)
 ·obtain rfl:i=xs.length:=by have:=of_decide_eq_false h;omega
  refine aX;exact nN rfl (aA.refl _) ⟨rfl,S1,rfl,hI⟩
def gT(xs:List Int)(k:Nat):Nat:=(xs.map fun x=>pE (kK x) k).sum
theorem aNl(n k:Nat)(hk:k≤16):pE n k≤38:=by unfold pE;split<;>omega
theorem aQm(xs:List Int)(k i:Nat)(h:i<xs.length):gT (xs.take (i+1)) k=gT (xs.take i) k+pE (kK (xs.getD i 0)) k:=by unfold gT;rw[List.take_succ_eq_append_getElem h,List.map_append,List.sum_append];simp[List.getD_eq_getElem?_getD,h]
theorem aA8(xs:List Int)(k:Nat)(hk:k≤16):gT xs k≤38*xs.length:=by
 unfold gT
 induction xs with
 | nil=>simp
 | cons x r ih =>
  have:=aNl (kK x) k hk;simp only[List.map_cons,List.sum_cons,List.length_cons];omega
def oB(xs:List Int):Nat→Nat
 | 0=>0
 | j+1=>if gT xs (j+1)<gT xs (oB xs j)then j+1 else oB xs j
def fY(xs:List Int):Nat:=oB xs 16
theorem aQh(xs:List Int)(j:Nat):oB xs j≤j:=by
 induction j with
 | zero=>simp[oB]
 | succ j ih=>unfold oB;split<;>omega
def aAb(xs:List Int)(k:Nat):Int:=if k=0 then 0 else (oB xs (k-1):Nat)
def xY(xs:List Int)(k:Nat):Int:=if k=0 then -1 else (gT xs (oB xs (k-1)):Nat)
theorem aIk(A:Option Addr)(c:Nat)(xs:List Int)(w:World)(hr:bP w (bB []) A xs.length c 1 (aD .i32 xs))(hx:xE xs)(hm:xs.length<1000000):
  aF prog 179 [.slice A xs.length c] [] w (fun v S'=>v=.tuple #[.int .i64 (fY xs),.int .i64 (gT xs (fY xs))]∧S'=[]):=by
 refine uR func179 rfl ntmps179 rfl ⟨aE,.nil⟩ (fun n=>?_);simp only[aG];refine aX;refine aR6 (X:=Nat×List Nat) (fun x=>x.1≤17) (fun x=>marks x.2) (fun x=>[(0,.slice A xs.length c),(4,.int .i64 (aAb xs x.1)),(5,.int .i64 (xY xs x.1)),(9,.int .i64 x.1)]) (fun x=>vA x.2) (fun x=>17-x.1) (0,[]) aE rfl ⟨rfl,rfl,rfl,rfl,trivial⟩ (.nil _) ?_;rintro⟨k,Ds⟩ hk;simp only at hk ⊢;refine aX;refine fB rfl (fun h=>?_) (fun h=>?_)
 ·have hk2:k≤16:=by have:=of_decide_eq_true h;omega
  refine aX;refine fO rfl rfl (aC.nil _) rfl (fun w hw ho=>aK6 _ _ _ w) ?_;rintro v S' ⟨g,rfl,rfl⟩;refine aX;rename_i b6 b7;refine aAd (S0:=[.blk g 167 [.slice A xs.length c],.blk b7 3 [.int .i64 0],.blk b6 3 [.int .i64 k]])
   (Rp:=fun D l pend S1=>pend=none∧S1=[.blk g 167 [.slice A xs.length c],.blk b7 3 [.int .i64 (gT xs k)],.blk b6 3 [.int .i64 k]]) rfl (aC.cons (.here _ _) (aC.cons (.here _ _) (aC.cons (.here _ _) (aC.nil _)))) (fun D l w1 LE hLE hw ho=>?_) ?_
  ·have hro:=hr.h.go hw (aC.cons (.there _ (.there _ (.here _ _))) (aC.cons (.here _ _) (aC.cons (.there _ (.here _ _)) (aC.cons (.there _ (.here _ _)) (aC.nil _)))));refine aF.conv (aK5 l g c A xs w1 [LE,.blk b7 3 [.int .i64 0],.blk b6 3 [.int .i64 k]] (fun i S=>S=[LE,.blk b7 3 [.int .i64 (gT (xs.take i) k)],.blk b6 3 [.int .i64 k]])
    (ho.perm (List.Perm.swap _ _ _)) ⟨hro⟩ hx oo (by simp[gT]) ?_) (List.Perm.swap _ _ _) ?_
   ·rintro i S1 hi rfl w2 ho2;have hxi:=hx i hi;have hfl:=aK4 _ hxi.1 hxi.2;have hsz:=aNl (kK (xs.getD i 0)) k hk2;have hb:=aA8 (xs.take i) k hk2;have hbt:=aQm xs k i hi;rw[List.length_take]at hb;subst hLE;refine uB (N:=32) ho2 rfl aE (fun n=>?_);simp only[over];refine aX;refine aEl ?_;refine aX;refine nI rfl od bD ?_;refine mK;refine tN (v:=.int .i64 (pE (kK (xs.getD i 0)) k:Nat)) rfl rfl rfl (fun w hw=>bAs _ k w hfl hk2) ?_;refine mK;refine lH ?_;refine aX;refine aEn (aA.refl _) ⟨rfl,?_⟩;rw[hbt];simp
   ·rintro v S' ⟨-,S1,rfl,rfl⟩;rw[List.take_of_length_le (Nat.le_refl _)];exact⟨_,List.Perm.swap _ _ _,.ready,none,_,by rw[hLE],aE,rfl,rfl⟩
  ·rintro D l pend S1 ⟨rfl,rfl⟩;refine⟨fun _=>?_,fun c h=>by cases h⟩;refine aX;refine nM 22 rfl (fun h2=>?_) (fun h2=>?_)
   ·have hk0:k=0:=by
     have:=of_decide_eq_true h2;unfold xY at this;split at this
     ·assumption
     ·omega
    subst hk0;refine aX;exact aEo (1,D::Ds) aE aE rfl ⟨rfl,rfl,rfl,rfl,trivial⟩ (aA.skip (aA.skip (aA.skip (aA.refl _) _) _) _)
   ·obtain⟨j,rfl⟩:∃j,k=j+1:=⟨k-1,by have:=of_decide_eq_false h2;unfold xY at this;split at this<;>omega⟩;have e1:xY xs (j+1)=(gT xs (oB xs j):Nat):=by simp[xY]
    have e2:aAb xs (j+1)=(oB xs j:Nat):=by simp[aAb]
    have hbt:oB xs (j+1)=if gT xs (j+1)<gT xs (oB xs j)then j+1 else oB xs j:=rfl;refine aX;refine fB rfl (fun h3=>?_) (fun h3=>?_)
    ·have h4:gT xs (j+1)<gT xs (oB xs j):=by have:=of_decide_eq_true h3;omega
     rw[if_pos h4]at hbt;refine aX;refine aEo (j+2,D::Ds) (by show j+2≤17;omega) (by show 17-(j+2)<17-(j+1);omega) rfl ⟨rfl,?_,?_,by simp[aI];omega,trivial⟩ (aA.skip (aA.skip (aA.skip (aA.refl _) _) _) _)
     ·simp[aI,aAb,hbt]
     ·simp[aI,xY,hbt]
    ·have h4:¬gT xs (j+1)<gT xs (oB xs j):=by have:=of_decide_eq_false h3;omega
     rw[if_neg h4]at hbt;refine aX;refine aEo (j+2,D::Ds) (by show j+2≤17;omega) (by show 17-(j+2)<17-(j+1);omega) rfl ⟨rfl,?_,?_,by simp[aI];omega,trivial⟩ (aA.skip (aA.skip (aA.skip (aA.refl _) _) _) _)
     ·simp[aI,aAb,hbt]
     ·simp[aI,xY,hbt]
 ·obtain rfl:k=17:=by have:=of_decide_eq_false h;omega
  refine aX;exact aV0 (S':=[]) rfl rfl rfl (aA.refl _) ⟨rfl,rfl⟩
