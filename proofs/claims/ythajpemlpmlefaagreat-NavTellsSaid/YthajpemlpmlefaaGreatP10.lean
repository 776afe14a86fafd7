import Derived.Test.YthajpemlpmlefaaGreatP07
set_option maxHeartbeats 512000000
set_option maxRecDepth 4000
set_option linter.unusedVariables false
set_option linter.unusedSimpArgs false
namespace Go.Proofs.YthajpemlpmlefaaGreat
open Go.RowKit
theorem or_add(a b k:Nat)(h:b<2^k)(h32:a*2^k+b<4294967296):bits .or .u32 ((a*2^k:Nat):Int) (b:Int)=((a*2^k+b:Nat):Int):=by
 have e:a*2^k ||| b=a*2^k+b:=by
  have:=Nat.two_pow_add_eq_or_of_lt h a
  rw[Nat.mul_comm];exact this.symm
 show IntKind.u32.wrap ((BitVec.ofInt 32 ((a*2^k:Nat):Int) ||| BitVec.ofInt 32 (b:Int)).toNat:Int)=_
 rw[BitVec.toNat_or,BitVec.ofInt_natCast,BitVec.ofInt_natCast,BitVec.toNat_ofNat,BitVec.toNat_ofNat,Nat.mod_eq_of_lt (by omega),Nat.mod_eq_of_lt (by omega),e,wrap_in]
 exact⟨by omega,by omega⟩
theorem ones_same{ys:List Int}{p i j:Nat}(hi:isAt ys p (List.replicate i true++[false]))(hj:isAt ys p (List.replicate j true++[false])):i=j:=by
 rw[isAt_append,isAt_ones,List.length_replicate,isAt_one]at hi hj
 rcases Nat.lt_trichotomy i j with h|h|h
 ·have:=hj.1.2 i h;rw[hi.2.2]at this;cases this
 ·exact h
 ·have:=hi.1.2 j h;rw[hj.2.2]at this;cases this
theorem code_low{n k:Nat}(h:shN n k<20):codeB n k=List.replicate (shN n k) true++[false]++numBits n k:=if_pos h
theorem code_high{n k:Nat}(h:¬shN n k<20):codeB n k=List.replicate 20 true++[false]++numBits n 17:=if_neg h
theorem code_same{ys:List Int}{p n m k:Nat}(hn:n<131072)(hm:m<131072)(h1:isAt ys p (codeB n k))(h2:isAt ys p (codeB m k)):n=m:=by
 have key:∀n m:Nat,n<131072→m<131072→shN n k<20→¬shN m k<20→isAt ys p (codeB n k)→isAt ys p (codeB m k)→False:=by
  intro n m _ _ ha hb h1 h2
  rw[code_low ha,isAt_append]at h1
  rw[code_high hb,isAt_append]at h2
  have:=ones_same h1.1 h2.1
  omega
 by_cases ha:shN n k<20<;>by_cases hb:shN m k<20
 ·rw[code_low ha,isAt_append]at h1
  rw[code_low hb,isAt_append]at h2
  have e:=ones_same h1.1 h2.1
  rw[e]at h1
  have e1:=(isAt_num.1 h1.2).2
  have e2:=(isAt_num.1 h2.2).2
  rw[e2]at e1
  unfold shN at e
  rw[← Nat.div_add_mod n (2^k),← Nat.div_add_mod m (2^k),e,e1]
 ·exact(key n m hn hm ha hb h1 h2).elim
 ·exact(key m n hm hn hb ha h2 h1).elim
 ·rw[code_high ha,isAt_append]at h1
  rw[code_high hb,isAt_append]at h2
  have e1:=(isAt_num.1 h1.2).2
  have e2:=(isAt_num.1 h2.2).2
  rw[e2,Nat.mod_eq_of_lt (by omega),Nat.mod_eq_of_lt (by omega)]at e1
  exact e1.symm
attribute [local irreducible] OJ J HdJ Code.wpIn wpListIn Oper.wpIn bodyPost CallsIn Does
def GetR(g c:Nat)(A:Option Addr)(ys:List Int)(p k:Nat)(v:Value)(S':List HE):Prop :=
 ∃(n p':Nat) (ok wr:Bool),v=.tuple #[.int .u32 n,.bool ok]∧S'=Rd g A c ys p' wr∧p'≤8*ys.length ∧
  ((ok=true∧wr=false∧n<131072∧p'=p+sizeN n k∧isAt ys p (codeB n k))∨(ok=false∧∀m,m<131072→¬isAt ys p (codeB m k)))
theorem get_any(g c:Nat)(A:Option Addr)(ys:List Int)(p k:Nat)(w:World)(hown:Own (Rd g A c ys p false) w)(hm:ys.length<100000000)(hp:p≤8*ys.length)(hk:k≤16):
  Does Tryz.prog 204 [.pointer (some ⟨g,0,none⟩),.int .i64 k] (Rd g A c ys p false) w (GetR g c A ys p k):=by
 refine does_of Tryz.func204 rfl Tryz.ntmps204 rfl hown (fun n=>?_)
 simp only[slots]
 refine z_go2
 refine lfn rfl rfl (Split.cons (.here _ _) (Split.cons (.here _ _) (Split.nil _))) rfl (fun w hw ho=>rones_any g c A ys p 20 w ho hm hp (by omega)) ?_
 rintro v S' ⟨j,p1,wr1,rfl,rfl,hp1,hj⟩
 refine z_go2
 rcases hj with⟨rfl,hj,rfl,hat⟩ | ⟨rfl,hno⟩
 ·refine lfk (v:=.bool true) rfl rfl (Split.cons (.here _ _) (Split.cons (.here _ _) (Split.nil _))) (Sub.refl _) rfl (fun w hw ho=>right_any g c A ys _ false w ho) ?_
  refine z_go2
  have hk2:2^k≤65536:=by rw[show 65536=2^16 from rfl];exact Nat.pow_le_pow_right (by omega) hk
  refine c_cond rfl (fun h=>?_) (fun h=>?_)
  ·have hj2:j<20:=by have:=of_decide_eq_true h;omega
   have hjk:j*2^k≤19*65536:=Nat.mul_le_mul (by omega) hk2
   have hsh:shL j k=j*2^k:=rfl
   refine z_go2
   refine lfn rfl rfl (Split.cons (.here _ _) (Split.cons (.here _ _) (Split.nil _))) rfl (fun w hw ho=>rnum_any g c A ys _ k false w ho hm hp1 (by omega)) ?_
   rintro v S' ⟨x,p2,wr2,rfl,hx,rfl,hp2,hx2⟩
   refine z_go2
   have hor:bits .or .u32 ((shL j k:Nat):Int) (x:Int)=((j*2^k+x:Nat):Int):=or_add j x k hx (by omega)
   have hq:shN (j*2^k+x) k=j:=by
    unfold shN;rw[Nat.mul_comm,Nat.mul_add_div (Nat.pow_pos (by omega)),Nat.div_eq_of_lt hx,Nat.add_zero]
   have hrem:(j*2^k+x)%2^k=x:=by rw[Nat.mul_comm,Nat.mul_add_mod,Nat.mod_eq_of_lt hx]
   have hcode:codeB (j*2^k+x) k=List.replicate j true++[false]++numBits (j*2^k+x) k:=by rw[code_low (by omega),hq]
   rcases hx2 with⟨rfl,-,rfl,hat2⟩ | ⟨rfl,hno2⟩
   ·refine lfk (v:=.bool true) rfl rfl (Split.cons (.here _ _) (Split.cons (.here _ _) (Split.nil _))) (Sub.refl _) rfl (fun w hw ho=>right_any g c A ys _ false w ho) ?_
    refine z_go2
    rw[hor]
    refine j_out2 rfl rfl rfl (Sub.refl _) ?_
    by_cases hb:j*2^k+x<131072
    ·refine⟨_,_,true,false,by rw[decide_eq_true (by omega)],rfl,hp2,.inl ⟨rfl,rfl,hb,?_,?_⟩⟩
     ·unfold sizeN;rw[hq,if_pos hj2];omega
     ·rw[hcode,isAt_append]
      refine⟨hat,?_⟩
      rw[List.length_append,List.length_replicate,List.length_singleton,← Nat.add_assoc]
      refine isAt_num.2 ⟨(isAt_num.1 hat2).1,?_⟩
      rw[hrem,(isAt_num.1 hat2).2,Nat.mod_eq_of_lt hx]
    ·refine⟨_,_,false,false,by rw[decide_eq_false (by omega)],rfl,hp2,.inr ⟨rfl,fun m hm2 hatm=>?_⟩⟩
     by_cases hq2:shN m k<20
     ·rw[code_low hq2,isAt_append]at hatm
      have e:=ones_same hat hatm.1
      rw[← e,List.length_append,List.length_replicate,List.length_singleton,← Nat.add_assoc]at hatm
      have e2:=(isAt_num.1 hatm.2).2
      rw[(isAt_num.1 hat2).2,Nat.mod_eq_of_lt hx]at e2
      apply hb
      unfold shN at e
      rw[e,e2,Nat.mul_comm,Nat.div_add_mod];exact hm2
     ·rw[code_high hq2,isAt_append]at hatm
      have e:=ones_same hat hatm.1
      omega
   ·refine lfk (v:=.bool false) rfl rfl (Split.cons (.here _ _) (Split.cons (.here _ _) (Split.nil _))) (Sub.refl _) rfl (fun w hw ho=>right_any g c A ys _ true w ho) ?_
    refine z_go2
    rw[hor]
    refine j_out2 rfl rfl rfl (Sub.refl _) ⟨_,_,false,true,rfl,rfl,hp2,.inr ⟨rfl,fun m hm2 hatm=>?_⟩⟩
    by_cases hq2:shN m k<20
    ·rw[code_low hq2,isAt_append]at hatm
     have e:=ones_same hat hatm.1
     rw[← e,List.length_append,List.length_replicate,List.length_singleton,← Nat.add_assoc]at hatm
     exact hno2 rfl _ hatm.2
    ·rw[code_high hq2,isAt_append]at hatm
     have e:=ones_same hat hatm.1
     omega
  ·have hj2:j=20:=by have:=of_decide_eq_false h;omega
   subst hj2
   refine z_go2
   refine lfn rfl rfl (Split.cons (.here _ _) (Split.cons (.here _ _) (Split.nil _))) rfl (fun w hw ho=>rnum_any g c A ys _ 17 false w ho hm hp1 (by omega)) ?_
   rintro v S' ⟨x,p2,wr2,rfl,hx,rfl,hp2,hx2⟩
   have hx3:x<131072:=by simpa using hx
   have hshx:=shN_le x k
   refine z_go2
   rcases hx2 with⟨rfl,-,rfl,hat2⟩ | ⟨rfl,hno2⟩
   ·refine c_drw rfl (by decide) (by decide +kernel) ?_
    refine z_hq
    refine hfk (v:=.bool true) rfl rfl (Split.cons (.here _ _) (Split.cons (.here _ _) (Split.nil _))) (Sub.refl _) rfl (fun w hw ho=>right_any g c A ys _ false w ho) ?_
    refine z_hq
    refine h_nil ?_
    refine z_go2
    refine j_out2 rfl rfl rfl (Sub.refl _) ?_
    by_cases hb:shN x k<20
    ·refine⟨_,_,false,false,by rw[decide_eq_false (by omega)],rfl,hp2,.inr ⟨rfl,fun m hm2 hatm=>?_⟩⟩
     by_cases hq2:shN m k<20
     ·rw[code_low hq2,isAt_append]at hatm
      have e:=ones_same hat hatm.1
      omega
     ·rw[code_high hq2,isAt_append]at hatm
      rw[List.length_append,List.length_replicate,List.length_singleton,← Nat.add_assoc]at hatm
      have e2:=(isAt_num.1 hatm.2).2
      rw[(isAt_num.1 hat2).2,Nat.mod_eq_of_lt hx,Nat.mod_eq_of_lt hm2]at e2
      subst e2;exact hq2 hb
    ·refine⟨_,_,true,false,by rw[decide_eq_true (by omega)],rfl,hp2,.inl ⟨rfl,rfl,hx3,?_,?_⟩⟩
     ·unfold sizeN;rw[if_neg hb]
     ·rw[code_high hb,isAt_append]
      refine⟨hat,?_⟩
      rw[List.length_append,List.length_replicate,List.length_singleton,← Nat.add_assoc]
      exact hat2
   ·refine c_drw rfl (by decide) (by decide +kernel) ?_
    refine z_hq
    refine hfk (v:=.bool false) rfl rfl (Split.cons (.here _ _) (Split.cons (.here _ _) (Split.nil _))) (Sub.refl _) rfl (fun w hw ho=>right_any g c A ys _ true w ho) ?_
    refine z_hq
    refine h_nil ?_
    refine z_go2
    refine j_out2 rfl rfl rfl (Sub.refl _) ⟨_,_,false,true,rfl,rfl,hp2,.inr ⟨rfl,fun m hm2 hatm=>?_⟩⟩
    by_cases hq2:shN m k<20
    ·rw[code_low hq2,isAt_append]at hatm
     have e:=ones_same hat hatm.1
     omega
    ·rw[code_high hq2,isAt_append]at hatm
     rw[List.length_append,List.length_replicate,List.length_singleton,← Nat.add_assoc]at hatm
     exact hno2 rfl _ hatm.2
 ·refine lfk (v:=.bool false) rfl rfl (Split.cons (.here _ _) (Split.cons (.here _ _) (Split.nil _))) (Sub.refl _) rfl (fun w hw ho=>right_any g c A ys _ true w ho) ?_
  refine z_go2
  refine j_out2 rfl rfl rfl (Sub.refl _) ⟨0,_,false,true,rfl,rfl,hp1,.inr ⟨rfl,fun m hm2 hatm=>?_⟩⟩
  by_cases hq2:shN m k<20
  ·rw[code_low hq2,isAt_append]at hatm
   exact hno _ (by omega) hatm.1
  ·rw[code_high hq2,isAt_append]at hatm
   exact hno 20 (by omega) hatm.1
def In32(xs:List Int):Prop:=∀i,i<xs.length→-2147483648≤xs.getD i 0∧xs.getD i 0≤2147483647
theorem folded_any(A:Option Addr)(m c:Nat)(w:World):Does Tryz.prog 210 [.slice A m c] [] w (fun v S'=>∃g,v=.func (.func 239) #[] #[.pointer (some ⟨g,0,none⟩)]∧S'=[.blk g 260 [.slice A m c]]):=by
 refine does_of Tryz.func210 rfl Tryz.ntmps210 rfl ⟨by simp,.nil⟩ (fun n=>?_)
 simp only[slots]
 refine z_go2
 exact j_out1 rfl rfl (Sub.refl _) ⟨_,rfl,rfl⟩
theorem folded1_any(l g c:Nat)(A:Option Addr)(xs:List Int)(w:World)(S:List HE)(I:Nat→List HE→Prop)(hown:Own (.blk g 260 [.slice A xs.length c]::S) w)
  (hr:RoA w (blocks (.blk g 260 [.slice A xs.length c]::S)) A xs.length c 1 (ints .i32 xs)) (hx:In32 xs) (hm:xs.length<1000000000) (h0:I 0 S)
  (hy:∀i S',i<xs.length→I i S'→∀w',Own S' w'→Yields Tryz.prog l [.int .u32 (foldN (xs.getD i 0):Nat)] S' w' (fun v S''=>v=.bool true∧I (i+1) S'')) :
  Does Tryz.prog 239 [.func (.yield l) #[] #[],.pointer (some ⟨g,0,none⟩)] (.blk g 260 [.slice A xs.length c]::S) w (fun v S'=>v=.tuple #[]∧∃S1,S'=.blk g 260 [.slice A xs.length c]::S1∧I xs.length S1):=by
 refine does_of Tryz.func239 rfl Tryz.ntmps239 rfl hown (fun n=>?_)
 simp only[slots]
 refine z_go2
 refine c_loop (X:=Nat×List HE) (fun x=>x.1≤xs.length∧I x.1 x.2) (fun x=>[(0,.func (.yield l) #[] #[]),(5,.slice A xs.length c),(6,.int .i64 xs.length),(7,.int .i64 x.1)]) (fun x=>.blk g 260 [.slice A xs.length c]::x.2) (fun x=>xs.length-x.1) (0,S) ⟨by simp,h0⟩ ⟨rfl,rfl,rfl,rfl,trivial⟩ (Sub.refl _) ?_
 rintro⟨i,S1⟩ ⟨hi,hI⟩
 simp only at hi hI ⊢
 refine z_go2
 refine c_cond rfl (fun h=>?_) (fun h=>?_)
 ·have hlt:i<xs.length:=by have:=of_decide_eq_true h;omega
  have hxi:=hx i hlt
  refine z_go2
  refine lfv (v:=.int .u32 (foldN (xs.getD i 0):Nat)) rfl rfl rfl (fun w hw=>fold_any _ w hxi.1 hxi.2) ?_
  refine z_go2
  refine lyl rfl rfl rfl (Split.all _ _) rfl (fun w hw ho=>hy i S1 hlt hI w ho) ?_
  rintro v S2 ⟨rfl,hI2⟩
  refine z_go2
  exact c_round (i+1,S2) ⟨by show i+1≤_;omega,hI2⟩ (by show _-(i+1)<_-i;omega) ⟨rfl,rfl,rfl,by simp[look],trivial⟩ (Sub.swap1 _ _)
 ·obtain rfl:i=xs.length:=by have:=of_decide_eq_false h;omega
  refine z_go2
  exact j_outN rfl (Sub.refl _) ⟨rfl,S1,rfl,hI⟩
def bitsOf(xs:List Int)(k:Nat):Nat:=(xs.map fun x=>sizeN (foldN x) k).sum
theorem sizeN_le(n k:Nat)(hk:k≤16):sizeN n k≤38:=by unfold sizeN;split<;>omega
theorem bitsOf_take(xs:List Int)(k i:Nat)(h:i<xs.length):bitsOf (xs.take (i+1)) k=bitsOf (xs.take i) k+sizeN (foldN (xs.getD i 0)) k:=by
 unfold bitsOf
 rw[List.take_succ_eq_append_getElem h,List.map_append,List.sum_append]
 simp[List.getD_eq_getElem?_getD,h]
theorem bitsOf_le(xs:List Int)(k:Nat)(hk:k≤16):bitsOf xs k≤38*xs.length:=by
 unfold bitsOf
 induction xs with
 | nil=>simp
 | cons x r ih =>
  have:=sizeN_le (foldN x) k hk
  simp only[List.map_cons,List.sum_cons,List.length_cons]
  omega
def bestTo(xs:List Int):Nat→Nat
 | 0=>0
 | j+1=>if bitsOf xs (j+1)<bitsOf xs (bestTo xs j)then j+1 else bestTo xs j
def bestK(xs:List Int):Nat:=bestTo xs 16
theorem bestTo_le(xs:List Int)(j:Nat):bestTo xs j≤j:=by
 induction j with
 | zero=>simp[bestTo]
 | succ j ih=>unfold bestTo;split<;>omega
def bstI(xs:List Int)(k:Nat):Int:=if k=0 then 0 else (bestTo xs (k-1):Nat)
def lstI(xs:List Int)(k:Nat):Int:=if k=0 then -1 else (bitsOf xs (bestTo xs (k-1)):Nat)
theorem best_any(A:Option Addr)(c:Nat)(xs:List Int)(w:World)(hr:RoA w (blocks []) A xs.length c 1 (ints .i32 xs))(hx:In32 xs)(hm:xs.length<1000000):
  Does Tryz.prog 206 [.slice A xs.length c] [] w (fun v S'=>v=.tuple #[.int .i64 (bestK xs),.int .i64 (bitsOf xs (bestK xs))]∧S'=[]):=by
 refine does_ofM Tryz.func206 rfl Tryz.ntmps206 rfl ⟨by simp,.nil⟩ (fun n=>?_)
 simp only[slots]
 refine z_go2
 refine c_loopD (X:=Nat×List Nat) (fun x=>x.1≤17) (fun x=>marks x.2) (fun x=>[(0,.slice A xs.length c),(4,.int .i64 (bstI xs x.1)),(5,.int .i64 (lstI xs x.1)),(9,.int .i64 x.1)]) (fun x=>marksH x.2) (fun x=>17-x.1) (0,[]) (by simp) rfl ⟨rfl,rfl,rfl,rfl,trivial⟩ (.nil _) ?_
 rintro⟨k,Ds⟩ hk
 simp only at hk ⊢
 refine z_go2
 refine c_cond rfl (fun h=>?_) (fun h=>?_)
 ·have hk2:k≤16:=by have:=of_decide_eq_true h;omega
  refine z_go2
  refine lfn rfl rfl (Split.nil _) rfl (fun w hw ho=>folded_any _ _ _ w) ?_
  rintro v S' ⟨g,rfl,rfl⟩
  refine z_go2
  rename_i b6 b7
  refine c_range (S0:=[.blk g 260 [.slice A xs.length c],.blk b7 3 [.int .i64 0],.blk b6 3 [.int .i64 k]])
   (Rp:=fun D l pend S1=>pend=none∧S1=[.blk g 260 [.slice A xs.length c],.blk b7 3 [.int .i64 (bitsOf xs k)],.blk b6 3 [.int .i64 k]]) rfl (Split.cons (.here _ _) (Split.cons (.here _ _) (Split.cons (.here _ _) (Split.nil _)))) (fun D l w1 LE hLE hw ho=>?_) ?_
  ·have hro:=hr.h.go hw (Split.cons (.there _ (.there _ (.here _ _))) (Split.cons (.here _ _) (Split.cons (.there _ (.here _ _)) (Split.cons (.there _ (.here _ _)) (Split.nil _)))))
   refine Does.conv (folded1_any l g c A xs w1 [LE,.blk b7 3 [.int .i64 0],.blk b6 3 [.int .i64 k]] (fun i S=>S=[LE,.blk b7 3 [.int .i64 (bitsOf (xs.take i) k)],.blk b6 3 [.int .i64 k]])
    (ho.perm (List.Perm.swap _ _ _)) ⟨hro⟩ hx (by omega) (by simp[bitsOf]) ?_) (List.Perm.swap _ _ _) ?_
   ·rintro i S1 hi rfl w2 ho2
    have hxi:=hx i hi
    have hfl:=foldN_le _ hxi.1 hxi.2
    have hsz:=sizeN_le (foldN (xs.getD i 0)) k hk2
    have hb:=bitsOf_le (xs.take i) k hk2
    have hbt:=bitsOf_take xs k i hi
    rw[List.length_take]at hb
    subst hLE
    refine yields_of (N:=32) ho2 rfl (by simp) (fun n=>?_)
    simp only[over]
    refine z_go2
    refine c_begin ?_
    refine z_go2
    refine c_drw rfl (by decide) (by decide +kernel) ?_
    refine z_hq
    refine hfv (v:=.int .i64 (sizeN (foldN (xs.getD i 0)) k:Nat)) rfl rfl rfl (fun w hw=>size_any _ k w hfl hk2) ?_
    refine z_hq
    refine h_nil ?_
    refine z_go2
    refine c_rnormal (Sub.refl _) ⟨rfl,?_⟩
    rw[hbt];simp
   ·rintro v S' ⟨-,S1,rfl,rfl⟩
    rw[List.take_of_length_le (Nat.le_refl _)]
    exact⟨_,List.Perm.swap _ _ _,.ready,none,_,by rw[hLE],by simp,rfl,rfl⟩
  ·rintro D l pend S1 ⟨rfl,rfl⟩
   refine⟨fun _=>?_,fun c h=>by cases h⟩
   refine z_go2
   refine j_case 22 rfl (fun h2=>?_) (fun h2=>?_)
   ·have hk0:k=0:=by
     have:=of_decide_eq_true h2
     unfold lstI at this
     split at this
     ·assumption
     ·omega
    subst hk0
    refine z_go2
    exact c_roundD (1,D::Ds) (by simp) (by simp) rfl ⟨rfl,rfl,rfl,rfl,trivial⟩ (Sub.skip (Sub.skip (Sub.skip (Sub.refl _) _) _) _)
   ·obtain⟨j,rfl⟩:∃j,k=j+1:=⟨k-1,by
     have:=of_decide_eq_false h2
     unfold lstI at this
     split at this<;>omega⟩
    have e1:lstI xs (j+1)=(bitsOf xs (bestTo xs j):Nat):=by simp[lstI]
    have e2:bstI xs (j+1)=(bestTo xs j:Nat):=by simp[bstI]
    have hbt:bestTo xs (j+1)=if bitsOf xs (j+1)<bitsOf xs (bestTo xs j)then j+1 else bestTo xs j:=rfl
    refine z_go2
    refine c_cond rfl (fun h3=>?_) (fun h3=>?_)
    ·have h4:bitsOf xs (j+1)<bitsOf xs (bestTo xs j):=by have:=of_decide_eq_true h3;omega
     rw[if_pos h4]at hbt
     refine z_go2
     refine c_roundD (j+2,D::Ds) (by show j+2≤17;omega) (by show 17-(j+2)<17-(j+1);omega) rfl ⟨rfl,?_,?_,by simp[look];omega,trivial⟩ (Sub.skip (Sub.skip (Sub.skip (Sub.refl _) _) _) _)
     ·simp[look,bstI,hbt]
     ·simp[look,lstI,hbt]
    ·have h4:¬bitsOf xs (j+1)<bitsOf xs (bestTo xs j):=by have:=of_decide_eq_false h3;omega
     rw[if_neg h4]at hbt
     refine z_go2
     refine c_roundD (j+2,D::Ds) (by show j+2≤17;omega) (by show 17-(j+2)<17-(j+1);omega) rfl ⟨rfl,?_,?_,by simp[look];omega,trivial⟩ (Sub.skip (Sub.skip (Sub.skip (Sub.refl _) _) _) _)
     ·simp[look,bstI,hbt]
     ·simp[look,lstI,hbt]
 ·obtain rfl:k=17:=by have:=of_decide_eq_false h;omega
  refine z_go2
  exact j_outM2 (S':=[]) rfl rfl rfl (Sub.refl _) ⟨rfl,rfl⟩
end Go.Proofs.YthajpemlpmlefaaGreat
