import Derived.Test.YthajpemlpmlefaaGreatP06
set_option maxHeartbeats 512000000
set_option maxRecDepth 4000
set_option linter.unusedVariables false
set_option linter.unusedSimpArgs false
namespace Go.Proofs.YthajpemlpmlefaaGreat
open Go.RowKit
theorem xor_zero(a:Int):bits .xor .i32 a 0=IntKind.i32.wrap a:=by
 show IntKind.i32.wrap ((BitVec.ofInt 32 a ^^^ BitVec.ofInt 32 0).toNat:Int)=_
 rw[show BitVec.ofInt 32 0=0#32 from rfl,BitVec.xor_zero,BitVec.toNat_ofInt]
 simp[IntKind.wrap,IntKind.bits,IntKind.signed]
 omega
theorem xor_ones(a:Int):bits .xor .i32 a (-1)=IntKind.i32.wrap (-a-1):=by
 show IntKind.i32.wrap ((BitVec.ofInt 32 a ^^^ BitVec.ofInt 32 (-1)).toNat:Int)=_
 rw[show BitVec.ofInt 32 (-1)=BitVec.allOnes 32 from by decide,BitVec.xor_allOnes,BitVec.toNat_not,BitVec.toNat_ofInt]
 simp[IntKind.wrap,IntKind.bits,IntKind.signed]
 omega
def foldI(x:Int):Int:=if x<0 then -2*x-1 else 2*x
def unfoldI(n:Int):Int:=if n%2=0 then n/2 else -(n/2)-1
theorem foldI_range(x:Int)(h0 : -2147483648≤x)(h1:x≤2147483647):0≤foldI x∧foldI x≤4294967295:=by unfold foldI;split<;>omega
theorem fold_eq(x:Int)(h0 : -2147483648≤x)(h1:x≤2147483647):
  IntKind.u32.wrap (bits .xor .i32 (IntKind.i32.wrap (x*2^1)) (x/2^31))=foldI x:=by
 unfold foldI
 by_cases hx:x<0
 ·rw[if_pos hx,show x/2^31 = -1 from by omega,xor_ones]
  simp[IntKind.wrap,IntKind.bits,IntKind.signed]
  omega
 ·rw[if_neg hx,show x/2^31=0 from by omega,xor_zero]
  simp[IntKind.wrap,IntKind.bits,IntKind.signed]
  omega
theorem and_one_u32(n:Int)(h0:0≤n)(h1:n≤4294967295):bits .and .u32 n 1=n%2:=by
 obtain⟨m,rfl⟩:=Int.eq_ofNat_of_zero_le h0
 show IntKind.u32.wrap ((BitVec.ofInt 32 (m:Int) &&& BitVec.ofInt 32 1).toNat:Int)=_
 have e:(BitVec.ofInt 32 (m:Int) &&& BitVec.ofInt 32 1).toNat=m%2:=by
  rw[BitVec.toNat_and,BitVec.ofInt_natCast,BitVec.toNat_ofNat,Nat.mod_eq_of_lt (by omega)]
  exact Nat.and_one_is_mod m
 rw[e,wrap_in (k:=.u32) (c:=((m%2:Nat):Int)) ⟨by omega,by omega⟩]
 omega
theorem unfold_eq(n:Int)(h0:0≤n)(h1:n≤4294967295):
  bits .xor .i32 (n/2^1) (IntKind.i32.wrap (0-IntKind.i32.wrap (bits .and .u32 n 1)))=unfoldI n:=by
 rw[and_one_u32 n h0 h1]
 unfold unfoldI
 by_cases hx:n%2=0
 ·rw[if_pos hx,hx,show IntKind.i32.wrap (0-IntKind.i32.wrap 0)=0 from by decide,xor_zero]
  simp[IntKind.wrap,IntKind.bits,IntKind.signed]
  omega
 ·rw[if_neg hx,show n%2=1 from by omega,show IntKind.i32.wrap (0-IntKind.i32.wrap 1) = -1 from by decide,xor_ones]
  simp[IntKind.wrap,IntKind.bits,IntKind.signed]
  omega
theorem unfold_fold(x:Int):unfoldI (foldI x)=x:=by unfold unfoldI foldI;split<;>split<;>omega
theorem fold_unfold(n:Int)(h:0≤n):foldI (unfoldI n)=n:=by unfold unfoldI foldI;split<;>split<;>omega
theorem unfoldI_range(n:Int)(h0:0≤n)(h1:n≤4294967295): -2147483648≤unfoldI n∧unfoldI n≤2147483647:=by unfold unfoldI;split<;>omega
theorem foldI_inj(x y:Int):foldI x=foldI y↔x=y:=⟨fun h=>by rw[← unfold_fold x,h,unfold_fold],fun h=>by rw[h]⟩
def foldN(x:Int):Nat:=(foldI x).toNat
theorem foldN_cast(x:Int):(foldN x:Int)=foldI x:=by unfold foldN foldI;split<;>omega
theorem foldN_le(x:Int)(h0 : -2147483648≤x)(h1:x≤2147483647):foldN x≤4294967295:=by have:=foldI_range x h0 h1;have:=foldN_cast x;omega
attribute [local irreducible] OJ J HdJ Code.wpIn wpListIn Oper.wpIn bodyPost CallsIn Does
theorem fold_any(x:Int)(w:World)(h0 : -2147483648≤x)(h1:x≤2147483647):Does Tryz.prog 240 [.int .i32 x] [] w (fun v S'=>v=.int .u32 (foldN x:Nat)∧S'=[]):=by
 have he:=fold_eq x h0 h1
 refine does_of Tryz.func240 rfl Tryz.ntmps240 rfl ⟨by simp,.nil⟩ (fun n=>?_)
 simp only[slots]
 refine z_go2
 exact j_out1 rfl rfl (.nil _) ⟨congrArg (Value.int .u32) (he.trans (foldN_cast x).symm),rfl⟩
theorem unfold_any(x:Int)(w:World)(h0:0≤x)(h1:x≤4294967295):Does Tryz.prog 205 [.int .u32 x] [] w (fun v S'=>v=.int .i32 (unfoldI x)∧S'=[]):=by
 have he:=unfold_eq x h0 h1
 refine does_of Tryz.func205 rfl Tryz.ntmps205 rfl ⟨by simp,.nil⟩ (fun n=>?_)
 simp only[slots]
 refine z_go2
 exact j_out1 rfl rfl (.nil _) ⟨congrArg (Value.int .i32) he,rfl⟩
def sizeN(n k:Nat):Nat:=if shN n k<20 then shN n k+1+k else 38
theorem size_any(x k:Nat)(w:World)(hx:x≤4294967295)(hk:k≤16):Does Tryz.prog 237 [.int .u32 x,.int .i64 k] [] w (fun v S'=>v=.int .i64 (sizeN x k)∧S'=[]):=by
 have hd:shN x k≤x:=shN_le _ _
 refine does_of Tryz.func237 rfl Tryz.ntmps237 rfl ⟨by simp,.nil⟩ (fun n=>?_)
 simp only[slots]
 refine z_go2
 refine c_cond rfl (fun h=>?_) (fun h=>?_)
 ·have hx:shN x k<20:=by have:=of_decide_eq_true h;omega
  have he:sizeN x k=shN x k+1+k:=if_pos hx
  refine z_go2
  exact j_out1 rfl rfl (.nil _) ⟨by rw[he];simp,rfl⟩
 ·have hx:¬shN x k<20:=by have:=of_decide_eq_false h;omega
  have he:sizeN x k=38:=if_neg hx
  refine z_go2
  exact j_out1 rfl rfl (.nil _) ⟨by rw[he];rfl,rfl⟩
def codeB(n k:Nat):List Bool:=if shN n k<20 then List.replicate (shN n k) true++[false]++numBits n k else List.replicate 20 true++[false]++numBits n 17
theorem codeB_len(n k:Nat):(codeB n k).length=sizeN n k:=by
 unfold codeB sizeN;split<;>simp[numBits_len];omega
theorem put_any(g c:Nat)(A:Option Addr)(bs:List Bool)(x k:Nat)(w:World)(hown:Own (Wr g A c bs) w)(hm:bs.length<700000000)(hx:x≤4294967295)(hk:k≤16):
  Does Tryz.prog 211 [.pointer (some ⟨g,0,none⟩),.int .u32 x,.int .i64 k] (Wr g A c bs) w (fun v S'=>v=.tuple #[]∧∃A' c',S'=Wr g A' c' (bs++codeB x k)):=by
 have hd:shN x k≤x:=shN_le _ _
 refine does_of Tryz.func211 rfl Tryz.ntmps211 rfl hown (fun n=>?_)
 simp only[slots]
 refine z_go2
 refine c_cond rfl (fun h=>?_) (fun h=>?_)
 ·have hx:shN x k<20:=by have:=of_decide_eq_true h;omega
  have he:codeB x k=List.replicate (shN x k) true++[false]++numBits x k:=if_pos hx
  refine z_go2
  refine lfn rfl rfl (Split.cons (.here _ _) (Split.cons (.here _ _) (Split.nil _))) rfl (fun w hw ho=>ones_any g c A bs _ w ho (by omega)) ?_
  rintro v S' ⟨rfl,A1,c1,rfl⟩
  refine z_go2
  refine lfn rfl rfl (Split.cons (.here _ _) (Split.cons (.here _ _) (Split.nil _))) rfl (fun w hw ho=>num_any g c1 A1 _ x k w ho (by simp;omega) (by omega) (by omega)) ?_
  rintro v S' ⟨rfl,A2,c2,rfl⟩
  refine z_go2
  rw[List.append_assoc,List.append_assoc,← List.append_assoc _ [false],← he]
  exact j_out0 rfl (Sub.refl _) ⟨rfl,A2,c2,rfl⟩
 ·have hx:¬shN x k<20:=by have:=of_decide_eq_false h;omega
  have he:codeB x k=List.replicate 20 true++[false]++numBits x 17:=if_neg hx
  refine z_go2
  refine lfn rfl rfl (Split.cons (.here _ _) (Split.cons (.here _ _) (Split.nil _))) rfl (fun w hw ho=>ones_any g c A bs 20 w ho (by omega)) ?_
  rintro v S' ⟨rfl,A1,c1,rfl⟩
  refine z_go2
  refine lfn rfl rfl (Split.cons (.here _ _) (Split.cons (.here _ _) (Split.nil _))) rfl (fun w hw ho=>num_any g c1 A1 _ x 17 w ho (by simp;omega) (by omega) (by omega)) ?_
  rintro v S' ⟨rfl,A2,c2,rfl⟩
  refine z_go2
  rw[List.append_assoc,List.append_assoc,← List.append_assoc _ [false],← he]
  exact j_outN rfl (Sub.refl _) ⟨rfl,A2,c2,rfl⟩
def isAt(ys:List Int)(p:Nat)(l:List Bool):Prop:=p+l.length≤8*ys.length∧∀i,i<l.length→bitY ys (p+i)=l.getD i false
theorem getD_append_left{l r:List Bool}{i:Nat}(h:i<l.length):(l++r).getD i false=l.getD i false:=by
 simp[List.getD_eq_getElem?_getD,List.getElem?_append_left h]
theorem getD_append_right{l r:List Bool}{i:Nat}(h:l.length≤i):(l++r).getD i false=r.getD (i-l.length) false:=by
 simp[List.getD_eq_getElem?_getD,List.getElem?_append_right h]
theorem isAt_append{ys:List Int}{p:Nat}{l r:List Bool}:isAt ys p (l++r)↔isAt ys p l∧isAt ys (p+l.length) r:=by
 constructor
 ·rintro⟨h1,h2⟩
  rw[List.length_append]at h1
  refine⟨⟨by omega,fun i hi=>?_⟩,⟨by omega,fun i hi=>?_⟩⟩
  ·rw[h2 i (by rw[List.length_append];omega),getD_append_left hi]
  ·rw[Nat.add_assoc,h2 (l.length+i) (by rw[List.length_append];omega),getD_append_right (by omega),Nat.add_sub_cancel_left]
 ·rintro⟨⟨h1,h2⟩,⟨h3,h4⟩⟩
  refine⟨by rw[List.length_append];omega,fun i hi=>?_⟩
  rw[List.length_append]at hi
  rcases Nat.lt_or_ge i l.length with h|h
  ·rw[h2 i h,getD_append_left h]
  ·rw[getD_append_right h,← h4 (i-l.length) (by omega),show p+l.length+(i-l.length)=p+i from by omega]
theorem isAt_nil{ys:List Int}{p:Nat}:isAt ys p []↔p≤8*ys.length:=⟨fun h=>by simpa using h.1,fun h=>⟨by simpa using h,fun i hi=>by simp at hi⟩⟩
theorem isAt_one{ys:List Int}{p:Nat}{b:Bool}:isAt ys p [b]↔p<8*ys.length∧bitY ys p=b:=by
 constructor
 ·rintro⟨h1,h2⟩;exact⟨by rw[List.length_singleton]at h1;omega,by simpa using h2 0 (by simp)⟩
 ·rintro⟨h1,h2⟩;refine⟨by rw[List.length_singleton];omega,fun i hi=>?_⟩
  obtain rfl:i=0:=by simpa using hi
  simpa using h2
theorem isAt_ones{ys:List Int}{p j:Nat}:isAt ys p (List.replicate j true)↔p+j≤8*ys.length∧∀i,i<j→bitY ys (p+i)=true:=by
 have e:∀i,i<j→(List.replicate j true).getD i false=true:=fun i hi=>by simp[List.getD_eq_getElem?_getD,hi]
 constructor
 ·rintro⟨h1,h2⟩;rw[List.length_replicate]at h1 h2;exact⟨h1,fun i hi=>by rw[h2 i hi,e i hi]⟩
 ·rintro⟨h1,h2⟩;refine⟨by rw[List.length_replicate];exact h1,fun i hi=>?_⟩
  rw[List.length_replicate]at hi;rw[h2 i hi,e i hi]
theorem numV_bit(ys:List Int)(p:Nat):∀(m i:Nat),i<m→(numV ys p m).testBit (m-1-i)=bitY ys (p+i)
 | 0,i,h=>by omega
 | m+1,i,h=>by
  by_cases hi:i=m
  ·subst hi
   rw[show i+1-1-i=0 from by omega,Nat.testBit_zero,numV]
   cases bitY ys (p+i)<;>simp[Nat.add_mod]
  ·rw[show m+1-1-i=(m-1-i)+1 from by omega,Nat.testBit_succ,numV,
    show (2*numV ys p m+(if bitY ys (p+m)=true then 1 else 0))/2=numV ys p m from by split<;>omega]
   exact numV_bit ys p m i (by omega)
theorem numBits_get(n m i:Nat)(h:i<m):(numBits n m).getD i false=n.testBit (m-1-i):=by
 simp[numBits,List.getD_eq_getElem?_getD,h]
theorem isAt_num{ys:List Int}{p n m:Nat}:isAt ys p (numBits n m)↔p+m≤8*ys.length∧numV ys p m=n%2^m:=by
 constructor
 ·rintro⟨h1,h2⟩
  rw[numBits_len]at h1 h2
  refine⟨h1,Nat.eq_of_testBit_eq fun j=>?_⟩
  rw[Nat.testBit_mod_two_pow]
  by_cases hj:j<m
  ·have:=numV_bit ys p m (m-1-j) (by omega)
   rw[h2 (m-1-j) (by omega),numBits_get n m _ (by omega),show m-1-(m-1-j)=j from by omega]at this
   simp[this,hj]
  ·rw[Nat.testBit_lt_two_pow (Nat.lt_of_lt_of_le (numV_lt ys p m) (Nat.pow_le_pow_right (by omega) (by omega)))]
   simp[hj]
 ·rintro⟨h1,h2⟩
  refine⟨by rw[numBits_len];exact h1,fun i hi=>?_⟩
  rw[numBits_len]at hi
  rw[numBits_get n m i hi,← numV_bit ys p m i hi,h2,Nat.testBit_mod_two_pow]
  simp[show m-1-i<m from by omega]
end Go.Proofs.YthajpemlpmlefaaGreat
namespace Go.Proofs.YthajpemlpmlefaaGreat
open Go.RowKit
theorem rones_any(g c:Nat)(A:Option Addr)(ys:List Int)(p m:Nat)(w:World)(hown:Own (Rd g A c ys p false) w)(hm:ys.length<100000000)(hp:p≤8*ys.length)(hm2:m<1000000):
  Does Tryz.prog 236 [.pointer (some ⟨g,0,none⟩),.int .i64 m] (Rd g A c ys p false) w (fun v S'=>∃(j p':Nat) (wr:Bool),v=.int .i64 j∧S'=Rd g A c ys p' wr∧p'≤8*ys.length ∧
   ((wr=false∧j≤m∧p'=p+j+1∧isAt ys p (List.replicate j true++[false]))∨(wr=true∧∀j,j≤m→¬isAt ys p (List.replicate j true++[false])))):=by
 by_cases h:∃j,j≤m∧isAt ys p (List.replicate j true++[false])
 ·obtain⟨j,hj,hat⟩:=h
  have h2:=isAt_append.1 hat
  rw[isAt_ones,List.length_replicate,isAt_one]at h2
  obtain⟨⟨-,h3⟩,h4,h5⟩:=h2
  refine(rones_yes g c A ys p m j w hown hm hj h4 hm2 h3 h5).mono ?_
  rintro v S' ⟨rfl,rfl⟩
  exact⟨j,p+j+1,false,rfl,rfl,by omega,.inl ⟨rfl,hj,rfl,hat⟩⟩
 ·refine(rones_no g c A ys p m w hown hm hp hm2 fun j hj hlt h1=>?_).mono ?_
  ·cases hb:bitY ys (p+j) with
   | true=>rfl
   | false=>exact absurd ⟨j,hj,isAt_append.2 ⟨isAt_ones.2 ⟨by omega,h1⟩,by rw[List.length_replicate];exact isAt_one.2 ⟨hlt,hb⟩⟩⟩ h
  ·rintro v S' ⟨rfl,p',hp',rfl⟩
   exact⟨0,p',true,rfl,rfl,hp',.inr ⟨rfl,fun j hj hat=>h ⟨j,hj,hat⟩⟩⟩
theorem rnum_any(g c:Nat)(A:Option Addr)(ys:List Int)(p m:Nat)(wr:Bool)(w:World)(hown:Own (Rd g A c ys p wr) w)(hm:ys.length<100000000)(hp:p≤8*ys.length)(h64:m≤63):
  Does Tryz.prog 202 [.pointer (some ⟨g,0,none⟩),.int .i64 m] (Rd g A c ys p wr) w (fun v S'=>∃(x p':Nat) (wr':Bool),v=.int .u64 x∧x<2^m∧S'=Rd g A c ys p' wr'∧p'≤8*ys.length ∧
   ((wr'=false∧wr=false∧p'=p+m∧isAt ys p (numBits x m))∨(wr'=true∧(wr=false→∀n,¬isAt ys p (numBits n m))))):=by
 by_cases h:wr=false∧p+m≤8*ys.length
 ·obtain⟨rfl,h⟩:=h
  refine(rnum_yes g c A ys p m w hown hm h h64).mono ?_
  rintro v S' ⟨rfl,rfl⟩
  exact⟨_,p+m,false,rfl,numV_lt ys p m,rfl,h,.inl ⟨rfl,rfl,rfl,isAt_num.2 ⟨h,(Nat.mod_eq_of_lt (numV_lt ys p m)).symm⟩⟩⟩
 ·refine(rnum_no g c A ys p m wr w hown hm hp h64 ?_).mono ?_
  ·cases wr with
   | true=>exact .inl rfl
   | false=>exact .inr (by have:¬p+m≤8*ys.length:=fun e=>h ⟨rfl,e⟩;omega)
  ·rintro v S' ⟨rfl,rfl⟩
   refine⟨0,p,true,rfl,Nat.pow_pos (by omega),rfl,hp,.inr ⟨rfl,fun hwr n hat=>h ⟨hwr,?_⟩⟩⟩
   exact(isAt_num.1 hat).1
end Go.Proofs.YthajpemlpmlefaaGreat
namespace Go.Proofs.YthajpemlpmlefaaGreat
theorem kn_bad{u y1 y0 d q r:Nat}(hu:u=q*y1+r)(hlt:u<y1*4294967296+y0)(hd:d<4294967296)(h:4294967296≤q∨r*4294967296+d<q*y0):u*4294967296+d<q*(y1*4294967296+y0):=by
 rcases h with h|h
 ·have h1:=Nat.mul_le_mul_right (y1*4294967296+y0) h
  refine Nat.lt_of_lt_of_le ?_ h1
  omega
 ·have e:q*(y1*4294967296+y0)=q*y1*4294967296+q*y0:=by rw[Nat.mul_add,Nat.mul_assoc]
  obtain⟨m,hm⟩:∃m,q*y1=m:=⟨_,rfl⟩
  obtain⟨n,hn⟩:∃m,q*y0=m:=⟨_,rfl⟩
  rw[hm,hn]at e
  rw[hm]at hu
  rw[hn]at h
  rw[e]
  clear e hd hlt
  subst hu
  rw[Nat.add_mul,Nat.add_assoc]
  exact Nat.add_lt_add_left h _
theorem kn_ok{u y1 y0 d q r:Nat}(hu:u=q*y1+r)(h:q*y0≤r*4294967296+d):q*(y1*4294967296+y0)≤u*4294967296+d:=by
 have e:q*(y1*4294967296+y0)=q*y1*4294967296+q*y0:=by rw[Nat.mul_add,Nat.mul_assoc]
 obtain⟨m,hm⟩:∃m,q*y1=m:=⟨_,rfl⟩
 obtain⟨n,hn⟩:∃m,q*y0=m:=⟨_,rfl⟩
 rw[hm,hn]at e
 rw[hm]at hu
 rw[hn]at h
 rw[e]
 omega
theorem kn_break{u y1 y0 q r:Nat}(d:Nat)(hu:u=q*y1+r)(hlt:u<y1*4294967296+y0)(hy0:y0<4294967296)(h:4294967296≤r):q*y0≤r*4294967296+d:=by
 have h1:q*y1<4294967296*y1:=by omega
 have h2:=Nat.lt_of_mul_lt_mul_right h1
 have h3:=Nat.mul_le_mul (Nat.le_of_lt h2) (Nat.le_of_lt (Nat.lt_of_lt_of_le hy0 h))
 omega
theorem kn_dig{u Y d q:Nat}(h1:(u*4294967296+d)/Y≤q)(h2:q*Y≤u*4294967296+d)(hY:0<Y):(u*4294967296+d)/Y=q :=
 Nat.le_antisymm h1 ((Nat.le_div_iff_mul_le hY).2 h2)
theorem kn_step{u Y d q:Nat}(hY:0<Y)(h1:(u*4294967296+d)/Y≤q)(h2:u*4294967296+d<q*Y):(u*4294967296+d)/Y≤q-1∧1≤q:=by
 have:=(Nat.div_lt_iff_lt_mul hY).2 h2
 generalize (u*4294967296+d)/Y=m at *
 omega
theorem kn_first{u y1 y0 d:Nat}(hy:0<y1)(hd:d<4294967296):(u*4294967296+d)/(y1*4294967296+y0)≤u/y1:=by
 have h0:(u*4294967296+d)/(y1*4294967296+y0)<u/y1+1:=by
  rw[Nat.div_lt_iff_lt_mul (by omega)]
  have h1:=Nat.div_add_mod u y1
  have h2:=Nat.mod_lt u hy
  have h3:u<(u/y1+1)*y1:=by rw[Nat.add_mul,Nat.one_mul,Nat.mul_comm];omega
  have e:(u/y1+1)*(y1*4294967296+y0)=(u/y1+1)*y1*4294967296+(u/y1+1)*y0:=by rw[Nat.mul_add,Nat.mul_assoc]
  rw[e]
  generalize (u/y1+1)*y0=m at *
  generalize (u/y1+1)*y1=n at *
  omega
 omega
theorem kn_lt{u Y d:Nat}(hu:u<Y)(hd:d<4294967296):(u*4294967296+d)/Y<4294967296:=by
 rw[Nat.div_lt_iff_lt_mul (by omega)]
 omega
theorem kn_two{N y P:Nat}(hy:0<y)(hP:0<P){U L q1 r1:Nat}(hU:U=N*P/18446744073709551616)(hL:L=N*P%18446744073709551616)(h1:q1=(U*4294967296+L/4294967296)/(y*P))(h2:r1=(U*4294967296+L/4294967296)%(y*P)):
  q1*4294967296+(r1*4294967296+L%4294967296)/(y*P)=N/y∧(r1*4294967296+L%4294967296)%(y*P)/P=N%y:=by
 have hY:0<y*P:=Nat.mul_pos hy hP
 have e1:=Nat.div_add_mod (N*P) 18446744073709551616
 rw[← hU,← hL]at e1
 have e2:=Nat.div_add_mod (U*4294967296+L/4294967296) (y*P)
 rw[← h1,← h2]at e2
 have e3:=Nat.div_add_mod (r1*4294967296+L%4294967296) (y*P)
 have l3:=Nat.mod_lt (r1*4294967296+L%4294967296) hY
 obtain⟨q0,hq0⟩:∃m,(r1*4294967296+L%4294967296)/(y*P)=m:=⟨_,rfl⟩
 obtain⟨r0,hr0⟩:∃m,(r1*4294967296+L%4294967296)%(y*P)=m:=⟨_,rfl⟩
 rw[hq0,hr0]at e3
 rw[hr0]at l3
 rw[hq0,hr0]
 have e4:N*P=y*P*(q1*4294967296+q0)+r0:=by
  rw[Nat.mul_add,← Nat.mul_assoc (y*P) q1]
  obtain⟨m,hm⟩:∃m,y*P*q1=m:=⟨_,rfl⟩
  obtain⟨n,hn⟩:∃m,y*P*q0=m:=⟨_,rfl⟩
  rw[hm]at e2 ⊢
  rw[hn]at e3 ⊢
  omega
 clear e1 e2 e3
 have e5:N*P/(y*P)=q1*4294967296+q0:=by
  rw[e4,Nat.mul_add_div hY,Nat.div_eq_of_lt l3,Nat.add_zero]
 have e6:N*P%(y*P)=r0:=by
  rw[e4,Nat.mul_add_mod,Nat.mod_eq_of_lt l3]
 rw[Nat.mul_div_mul_right N y hP]at e5
 rw[Nat.mul_mod_mul_right]at e6
 exact⟨e5.symm,by rw[← e6,Nat.mul_div_cancel _ hP]⟩
theorem kn_top{hi lo s:Nat}(hs:s≤63)(hlo:lo<18446744073709551616):(hi*18446744073709551616+lo)*2^s/18446744073709551616=hi*2^s+lo/2^(64-s)∧lo/2^(64-s)<2^s:=by
 have e:(18446744073709551616:Nat)=2^(64-s)*2^s:=by rw[← Nat.pow_add,show 64-s+s=64 by omega]
 have hp:0<2^s:=Nat.pow_pos (by omega)
 constructor
 ·rw[Nat.add_mul,Nat.mul_right_comm,Nat.mul_comm (hi*2^s),Nat.mul_add_div (by omega)]
  congr 1
  rw[e,Nat.mul_div_mul_right _ _ hp]
 ·rw[Nat.div_lt_iff_lt_mul (Nat.pow_pos (by omega)),Nat.mul_comm,← e]
  exact hlo
theorem kn_low{hi lo s:Nat}:(hi*18446744073709551616+lo)*2^s%18446744073709551616=lo*2^s%18446744073709551616:=by
 rw[Nat.add_mul,Nat.mul_right_comm,Nat.mul_comm (hi*2^s),Nat.mul_add_mod]
theorem kn_less{hi lo y P:Nat}(h:hi<y)(hP:0<P)(hlo:lo<18446744073709551616):(hi*18446744073709551616+lo)*P/18446744073709551616<y*P:=by
 have h1:hi*18446744073709551616+lo<y*18446744073709551616:=by omega
 rw[Nat.div_lt_iff_lt_mul (by omega)]
 have h2:=Nat.mul_lt_mul_of_pos_right h1 hP
 rwa [Nat.mul_right_comm]at h2
end Go.Proofs.YthajpemlpmlefaaGreat
