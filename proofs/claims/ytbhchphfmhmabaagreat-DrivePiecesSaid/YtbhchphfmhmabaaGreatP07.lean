import Derived.Test.YtbhchphfmhmabaaGreatP06
set_option maxHeartbeats 512000000
set_option maxRecDepth 4000
set_option linter.unusedVariables false
set_option linter.unusedSimpArgs false
namespace Go.Proofs.YtbhchphfmhmabaaGreat
open Go.RowKit _root_.Go.Proofs.Tryz
theorem xor_zero(a:Int):bits .xor .i32 a 0=IntKind.i32.wrap a:=by show IntKind.i32.wrap ((BitVec.ofInt 32 a ^^^ BitVec.ofInt 32 0).toNat:Int)=_;rw[show BitVec.ofInt 32 0=0#32 from rfl,BitVec.xor_zero,BitVec.toNat_ofInt];simp[IntKind.wrap,IntKind.bits,IntKind.signed];omega
theorem aP2(a:Int):bits .xor .i32 a (-1)=IntKind.i32.wrap (-a-1):=by show IntKind.i32.wrap ((BitVec.ofInt 32 a ^^^ BitVec.ofInt 32 (-1)).toNat:Int)=_;rw[show BitVec.ofInt 32 (-1)=BitVec.allOnes 32 from by decide,BitVec.xor_allOnes,BitVec.toNat_not,BitVec.toNat_ofInt];simp[IntKind.wrap,IntKind.bits,IntKind.signed];omega
def nL(x:Int):Int:=if x<0 then -2*x-1 else 2*x
def nC(n:Int):Int:=if n%2=0 then n/2 else -(n/2)-1
theorem aTk(x:Int)(h0 : -2147483648≤x)(h1:x≤2147483647):0≤nL x∧nL x≤4294967295:=by unfold nL;split<;>omega
theorem aTn(x:Int)(h0 : -2147483648≤x)(h1:x≤2147483647):
  IntKind.u32.wrap (bits .xor .i32 (IntKind.i32.wrap (x*2^1)) (x/2^31))=nL x:=by
 unfold nL;by_cases hx:x<0
 ·rw[if_pos hx,show x/2^31 = -1 from by omega,aP2];simp[IntKind.wrap,IntKind.bits,IntKind.signed];omega
 ·rw[if_neg hx,show x/2^31=0 from by omega,xor_zero];simp[IntKind.wrap,IntKind.bits,IntKind.signed];omega
theorem aPy(n:Int)(h0:0≤n)(h1:n≤4294967295):bits .and .u32 n 1=n%2:=by
 obtain⟨m,rfl⟩:=Int.eq_ofNat_of_zero_le h0;show IntKind.u32.wrap ((BitVec.ofInt 32 (m:Int) &&& BitVec.ofInt 32 1).toNat:Int)=_;have e:(BitVec.ofInt 32 (m:Int) &&& BitVec.ofInt 32 1).toNat=m%2:=by rw[BitVec.toNat_and,BitVec.ofInt_natCast,BitVec.toNat_ofNat,Nat.mod_eq_of_lt oo];exact Nat.and_one_is_mod m
 rw[e,mJ (k:=.u32) (c:=((m%2:Nat):Int)) ⟨oo,oo⟩];omega
theorem bC4(n:Int)(h0:0≤n)(h1:n≤4294967295):
  bits .xor .i32 (n/2^1) (IntKind.i32.wrap (0-IntKind.i32.wrap (bits .and .u32 n 1)))=nC n:=by
 rw[aPy n h0 h1];unfold nC;by_cases hx:n%2=0
 ·rw[if_pos hx,hx,show IntKind.i32.wrap (0-IntKind.i32.wrap 0)=0 from by decide,xor_zero];simp[IntKind.wrap,IntKind.bits,IntKind.signed];omega
 ·rw[if_neg hx,show n%2=1 from by omega,show IntKind.i32.wrap (0-IntKind.i32.wrap 1) = -1 from by decide,aP2];simp[IntKind.wrap,IntKind.bits,IntKind.signed];omega
theorem aOg(x:Int):nC (nL x)=x:=by unfold nC nL;split<;>split<;>omega
theorem aTo(n:Int)(h:0≤n):nL (nC n)=n:=by unfold nC nL;split<;>split<;>omega
theorem bC2(n:Int)(h0:0≤n)(h1:n≤4294967295): -2147483648≤nC n∧nC n≤2147483647:=by unfold nC;split<;>omega
theorem aTj(x y:Int):nL x=nL y↔x=y:=⟨fun h=>by rw[← aOg x,h,aOg],fun h=>by rw[h]⟩
def kK(x:Int):Nat:=(nL x).toNat
theorem xT(x:Int):(kK x:Int)=nL x:=by unfold kK nL;split<;>omega
theorem aK4(x:Int)(h0 : -2147483648≤x)(h1:x≤2147483647):kK x≤4294967295:=by have:=aTk x h0 h1;have:=xT x;omega
attribute [local irreducible] OJ J bM Code.wpIn wpListIn Oper.wpIn bodyPost CallsIn aF
theorem aTm(x:Int)(w:World)(h0 : -2147483648≤x)(h1:x≤2147483647):aF prog 223 [.int .i32 x] [] w (fun v S'=>v=.int .u32 (kK x:Nat)∧S'=[]):=by have he:=aTn x h0 h1;refine aJ func223 rfl ntmps223 rfl ⟨aE,.nil⟩ (fun n=>?_);simp only[aG];refine aX;exact aM rfl rfl (.nil _) ⟨congrArg (Value.int .u32) (he.trans (xT x).symm),rfl⟩
theorem bC3(x:Int)(w:World)(h0:0≤x)(h1:x≤4294967295):aF prog 256 [.int .u32 x] [] w (fun v S'=>v=.int .i32 (nC x)∧S'=[]):=by have he:=bC4 x h0 h1;refine aJ func256 rfl ntmps256 rfl ⟨aE,.nil⟩ (fun n=>?_);simp only[aG];refine aX;exact aM rfl rfl (.nil _) ⟨congrArg (Value.int .i32) he,rfl⟩
def pE(n k:Nat):Nat:=if fL n k<20 then fL n k+1+k else 38
theorem bAs(x k:Nat)(w:World)(hx:x≤4294967295)(hk:k≤16):aF prog 220 [.int .u32 x,.int .i64 k] [] w (fun v S'=>v=.int .i64 (pE x k)∧S'=[]):=by
 have hd:fL x k≤x:=aHb _ _;refine aJ func220 rfl ntmps220 rfl ⟨aE,.nil⟩ (fun n=>?_);simp only[aG];refine aX;refine fB rfl (fun h=>?_) (fun h=>?_)
 ·have hx:fL x k<20:=by have:=of_decide_eq_true h;omega
  have he:pE x k=fL x k+1+k:=if_pos hx;refine aX;exact aM rfl rfl (.nil _) ⟨by rw[he];simp,rfl⟩
 ·have hx:¬fL x k<20:=by have:=of_decide_eq_false h;omega
  have he:pE x k=38:=if_neg hx;refine aX;exact aM rfl rfl (.nil _) ⟨by rw[he];rfl,rfl⟩
def lE(n k:Nat):List Bool:=if fL n k<20 then List.replicate (fL n k) true++[false]++gW n k else List.replicate 20 true++[false]++gW n 17
theorem aJa(n k:Nat):(lE n k).length=pE n k:=by unfold lE pE;split<;>simp[rA];omega
theorem aYk(g c:Nat)(A:Option Addr)(bs:List Bool)(x k:Nat)(w:World)(hown:aZ (Wr g A c bs) w)(hm:bs.length<700000000)(hx:x≤4294967295)(hk:k≤16):
  aF prog 182 [.pointer (some ⟨g,0,none⟩),.int .u32 x,.int .i64 k] (Wr g A c bs) w (fun v S'=>v=.tuple #[]∧∃A' c',S'=Wr g A' c' (bs++lE x k)):=by
 have hd:fL x k≤x:=aHb _ _;refine aJ func182 rfl ntmps182 rfl hown (fun n=>?_);simp only[aG];refine aX;refine fB rfl (fun h=>?_) (fun h=>?_)
 ·have hx:fL x k<20:=by have:=of_decide_eq_true h;omega
  have he:lE x k=List.replicate (fL x k) true++[false]++gW x k:=if_pos hx;refine aX;refine fO rfl rfl (aC.cons (.here _ _) (aC.cons (.here _ _) (aC.nil _))) rfl (fun w hw ho=>aM4 g c A bs _ w ho oo) ?_;rintro v S' ⟨rfl,A1,c1,rfl⟩;refine aX;refine fO rfl rfl (aC.cons (.here _ _) (aC.cons (.here _ _) (aC.nil _))) rfl (fun w hw ho=>aG8 g c1 A1 _ x k w ho (by simp;omega) oo oo) ?_;rintro v S' ⟨rfl,A2,c2,rfl⟩;refine aX;rw[List.append_assoc,List.append_assoc,← List.append_assoc _ [false],← he];exact aFt rfl (aA.refl _) ⟨rfl,A2,c2,rfl⟩
 ·have hx:¬fL x k<20:=by have:=of_decide_eq_false h;omega
  have he:lE x k=List.replicate 20 true++[false]++gW x 17:=if_neg hx;refine aX;refine fO rfl rfl (aC.cons (.here _ _) (aC.cons (.here _ _) (aC.nil _))) rfl (fun w hw ho=>aM4 g c A bs 20 w ho oo) ?_;rintro v S' ⟨rfl,A1,c1,rfl⟩;refine aX;refine fO rfl rfl (aC.cons (.here _ _) (aC.cons (.here _ _) (aC.nil _))) rfl (fun w hw ho=>aG8 g c1 A1 _ x 17 w ho (by simp;omega) oo oo) ?_;rintro v S' ⟨rfl,A2,c2,rfl⟩;refine aX;rw[List.append_assoc,List.append_assoc,← List.append_assoc _ [false],← he];exact nN rfl (aA.refl _) ⟨rfl,A2,c2,rfl⟩
def eX(ys:List Int)(p:Nat)(l:List Bool):Prop:=p+l.length≤8*ys.length∧∀i,i<l.length→jE ys (p+i)=l.getD i false
theorem aFc{l r:List Bool}{i:Nat}(h:i<l.length):(l++r).getD i false=l.getD i false:=by simp[List.getD_eq_getElem?_getD,List.getElem?_append_left h]
theorem aFd{l r:List Bool}{i:Nat}(h:l.length≤i):(l++r).getD i false=r.getD (i-l.length) false:=by simp[List.getD_eq_getElem?_getD,List.getElem?_append_right h]
theorem gG{ys:List Int}{p:Nat}{l r:List Bool}:eX ys p (l++r)↔eX ys p l∧eX ys (p+l.length) r:=by
 constructor
 ·rintro⟨h1,h2⟩;rw[List.length_append]at h1;refine⟨⟨oo,fun i hi=>?_⟩,⟨oo,fun i hi=>?_⟩⟩
  ·rw[h2 i (by rw[List.length_append];omega),aFc hi]
  ·rw[Nat.add_assoc,h2 (l.length+i) (by rw[List.length_append];omega),aFd oo,Nat.add_sub_cancel_left]
 ·rintro⟨⟨h1,h2⟩,⟨h3,h4⟩⟩;refine⟨by rw[List.length_append];omega,fun i hi=>?_⟩;rw[List.length_append]at hi;rcases Nat.lt_or_ge i l.length with h|h
  ·rw[h2 i h,aFc h]
  ·rw[aFd h,← h4 (i-l.length) oo,show p+l.length+(i-l.length)=p+i from by omega]
theorem aUr{ys:List Int}{p:Nat}:eX ys p []↔p≤8*ys.length:=⟨fun h=>by simpa using h.1,fun h=>⟨by simpa using h,fun i hi=>by simp at hi⟩⟩
theorem aFn{ys:List Int}{p:Nat}{b:Bool}:eX ys p [b]↔p<8*ys.length∧jE ys p=b:=by
 constructor
 ·rintro⟨h1,h2⟩;exact⟨by rw[List.length_singleton]at h1;omega,by simpa using h2 0 aE⟩
 ·rintro⟨h1,h2⟩;refine⟨by rw[List.length_singleton];omega,fun i hi=>?_⟩;obtain rfl:i=0:=by simpa using hi
  simpa using h2
theorem aFo{ys:List Int}{p j:Nat}:eX ys p (List.replicate j true)↔p+j≤8*ys.length∧∀i,i<j→jE ys (p+i)=true:=by
 have e:∀i,i<j→(List.replicate j true).getD i false=true:=fun i hi=>by simp[List.getD_eq_getElem?_getD,hi]
 constructor
 ·rintro⟨h1,h2⟩;rw[List.length_replicate]at h1 h2;exact⟨h1,fun i hi=>by rw[h2 i hi,e i hi]⟩
 ·rintro⟨h1,h2⟩;refine⟨by rw[List.length_replicate];exact h1,fun i hi=>?_⟩;rw[List.length_replicate]at hi;rw[h2 i hi,e i hi]
theorem aG7(ys:List Int)(p:Nat):∀(m i:Nat),i<m→(kY ys p m).testBit (m-1-i)=jE ys (p+i)
 | 0,i,h=>by omega
 | m+1,i,h=>by
  by_cases hi:i=m
  ·subst hi;rw[show i+1-1-i=0 from by omega,Nat.testBit_zero,kY];cases jE ys (p+i)<;>simp[Nat.add_mod]
  ·rw[show m+1-1-i=(m-1-i)+1 from by omega,Nat.testBit_succ,kY,
    show (2*kY ys p m+(if jE ys (p+m)=true then 1 else 0))/2=kY ys p m from by split<;>omega]
   exact aG7 ys p m i oo
theorem aLy(n m i:Nat)(h:i<m):(gW n m).getD i false=n.testBit (m-1-i):=by simp[gW,List.getD_eq_getElem?_getD,h]
theorem oG{ys:List Int}{p n m:Nat}:eX ys p (gW n m)↔p+m≤8*ys.length∧kY ys p m=n%2^m:=by
 constructor
 ·rintro⟨h1,h2⟩;rw[rA]at h1 h2;refine⟨h1,Nat.eq_of_testBit_eq fun j=>?_⟩;rw[Nat.testBit_mod_two_pow];by_cases hj:j<m
  ·have:=aG7 ys p m (m-1-j) oo;rw[h2 (m-1-j) oo,aLy n m _ oo,show m-1-(m-1-j)=j from by omega]at this;simp[this,hj]
  ·rw[Nat.testBit_lt_two_pow (Nat.lt_of_lt_of_le (aD0 ys p m) (Nat.pow_le_pow_right oo oo))];simp[hj]
 ·rintro⟨h1,h2⟩;refine⟨by rw[rA];exact h1,fun i hi=>?_⟩;rw[rA]at hi;rw[aLy n m i hi,← aG7 ys p m i hi,h2,Nat.testBit_mod_two_pow];simp[show m-1-i<m from by omega]
end Go.Proofs.YtbhchphfmhmabaaGreat
namespace Go.Proofs.YtbhchphfmhmabaaGreat
open Go.RowKit _root_.Go.Proofs.Tryz
theorem bA3(g c:Nat)(A:Option Addr)(ys:List Int)(p m:Nat)(w:World)(hown:aZ (Rd g A c ys p false) w)(hm:ys.length<100000000)(hp:p≤8*ys.length)(hm2:m<1000000):
  aF prog 272 [.pointer (some ⟨g,0,none⟩),.int .i64 m] (Rd g A c ys p false) w (fun v S'=>∃(j p':Nat) (wr:Bool),v=.int .i64 j∧S'=Rd g A c ys p' wr∧p'≤8*ys.length ∧
   ((wr=false∧j≤m∧p'=p+j+1∧eX ys p (List.replicate j true++[false]))∨(wr=true∧∀j,j≤m→¬eX ys p (List.replicate j true++[false])))):=by
 by_cases h:∃j,j≤m∧eX ys p (List.replicate j true++[false])
 ·obtain⟨j,hj,hat⟩:=h;have h2:=gG.1 hat
  rw[aFo,List.length_replicate,aFn]at h2;obtain⟨⟨-,h3⟩,h4,h5⟩:=h2;refine(bA5 g c A ys p m j w hown hm hj h4 hm2 h3 h5).mono ?_;rintro v S' ⟨rfl,rfl⟩;exact⟨j,p+j+1,false,rfl,rfl,oo,.inl ⟨rfl,hj,rfl,hat⟩⟩
 ·refine(bA4 g c A ys p m w hown hm hp hm2 fun j hj hlt h1=>?_).mono ?_
  ·cases hb:jE ys (p+j) with
   | true=>rfl
   | false=>exact absurd ⟨j,hj,gG.2 ⟨aFo.2 ⟨oo,h1⟩,by rw[List.length_replicate];exact aFn.2 ⟨hlt,hb⟩⟩⟩ h
  ·rintro v S' ⟨rfl,p',hp',rfl⟩;exact⟨0,p',true,rfl,rfl,hp',.inr ⟨rfl,fun j hj hat=>h ⟨j,hj,hat⟩⟩⟩
theorem aH1(g c:Nat)(A:Option Addr)(ys:List Int)(p m:Nat)(wr:Bool)(w:World)(hown:aZ (Rd g A c ys p wr) w)(hm:ys.length<100000000)(hp:p≤8*ys.length)(h64:m≤63):
  aF prog 253 [.pointer (some ⟨g,0,none⟩),.int .i64 m] (Rd g A c ys p wr) w (fun v S'=>∃(x p':Nat) (wr':Bool),v=.int .u64 x∧x<2^m∧S'=Rd g A c ys p' wr'∧p'≤8*ys.length ∧
   ((wr'=false∧wr=false∧p'=p+m∧eX ys p (gW x m))∨(wr'=true∧(wr=false→∀n,¬eX ys p (gW n m))))):=by
 by_cases h:wr=false∧p+m≤8*ys.length
 ·obtain⟨rfl,h⟩:=h;refine(bA2 g c A ys p m w hown hm h h64).mono ?_;rintro v S' ⟨rfl,rfl⟩;exact⟨_,p+m,false,rfl,aD0 ys p m,rfl,h,.inl ⟨rfl,rfl,rfl,oG.2 ⟨h,(Nat.mod_eq_of_lt (aD0 ys p m)).symm⟩⟩⟩
 ·refine(bA1 g c A ys p m wr w hown hm hp h64 ?_).mono ?_
  ·cases wr with
   | true=>exact .inl rfl
   | false=>exact .inr (by have:¬p+m≤8*ys.length:=fun e=>h ⟨rfl,e⟩;omega)
  ·rintro v S' ⟨rfl,rfl⟩;refine⟨0,p,true,rfl,Nat.pow_pos oo,rfl,hp,.inr ⟨rfl,fun hwr n hat=>h ⟨hwr,?_⟩⟩⟩;exact(oG.1 hat).1
end Go.Proofs.YtbhchphfmhmabaaGreat
namespace Go.Proofs.YtbhchphfmhmabaaGreat
theorem aV3{u y1 y0 d q r:Nat}(hu:u=q*y1+r)(hlt:u<y1*4294967296+y0)(hd:d<4294967296)(h:4294967296≤q∨r*4294967296+d<q*y0):u*4294967296+d<q*(y1*4294967296+y0):=by
 rcases h with h|h
 ·have h1:=Nat.mul_le_mul_right (y1*4294967296+y0) h;refine Nat.lt_of_lt_of_le ?_ h1;omega
 ·have e:q*(y1*4294967296+y0)=q*y1*4294967296+q*y0:=by rw[Nat.mul_add,Nat.mul_assoc]
  obtain⟨m,hm⟩:∃m,q*y1=m:=⟨_,rfl⟩;obtain⟨n,hn⟩:∃m,q*y0=m:=⟨_,rfl⟩;rw[hm,hn]at e;rw[hm]at hu;rw[hn]at h;rw[e];clear e hd hlt;subst hu;rw[Nat.add_mul,Nat.add_assoc];exact Nat.add_lt_add_left h _
theorem aL1{u y1 y0 d q r:Nat}(hu:u=q*y1+r)(h:q*y0≤r*4294967296+d):q*(y1*4294967296+y0)≤u*4294967296+d:=by
 have e:q*(y1*4294967296+y0)=q*y1*4294967296+q*y0:=by rw[Nat.mul_add,Nat.mul_assoc]
 obtain⟨m,hm⟩:∃m,q*y1=m:=⟨_,rfl⟩;obtain⟨n,hn⟩:∃m,q*y0=m:=⟨_,rfl⟩;rw[hm,hn]at e;rw[hm]at hu;rw[hn]at h;rw[e];omega
theorem aV4{u y1 y0 q r:Nat}(d:Nat)(hu:u=q*y1+r)(hlt:u<y1*4294967296+y0)(hy0:y0<4294967296)(h:4294967296≤r):q*y0≤r*4294967296+d:=by have h1:q*y1<4294967296*y1:=oo;have h2:=Nat.lt_of_mul_lt_mul_right h1;have h3:=Nat.mul_le_mul (Nat.le_of_lt h2) (Nat.le_of_lt (Nat.lt_of_lt_of_le hy0 h));omega
theorem aL0{u Y d q:Nat}(h1:(u*4294967296+d)/Y≤q)(h2:q*Y≤u*4294967296+d)(hY:0<Y):(u*4294967296+d)/Y=q :=
 Nat.le_antisymm h1 ((Nat.le_div_iff_mul_le hY).2 h2)
theorem aV9{u Y d q:Nat}(hY:0<Y)(h1:(u*4294967296+d)/Y≤q)(h2:u*4294967296+d<q*Y):(u*4294967296+d)/Y≤q-1∧1≤q:=by have:=(Nat.div_lt_iff_lt_mul hY).2 h2;generalize (u*4294967296+d)/Y=m at *;omega
theorem aV5{u y1 y0 d:Nat}(hy:0<y1)(hd:d<4294967296):(u*4294967296+d)/(y1*4294967296+y0)≤u/y1:=by
 have h0:(u*4294967296+d)/(y1*4294967296+y0)<u/y1+1:=by
  rw[Nat.div_lt_iff_lt_mul oo];have h1:=Nat.div_add_mod u y1;have h2:=Nat.mod_lt u hy;have h3:u<(u/y1+1)*y1:=by rw[Nat.add_mul,Nat.one_mul,Nat.mul_comm];omega
  have e:(u/y1+1)*(y1*4294967296+y0)=(u/y1+1)*y1*4294967296+(u/y1+1)*y0:=by rw[Nat.mul_add,Nat.mul_assoc]
  rw[e];generalize (u/y1+1)*y0=m at *;generalize (u/y1+1)*y1=n at *;omega
 omega
theorem aV8{u Y d:Nat}(hu:u<Y)(hd:d<4294967296):(u*4294967296+d)/Y<4294967296:=by rw[Nat.div_lt_iff_lt_mul oo];omega
theorem aVb{N y P:Nat}(hy:0<y)(hP:0<P){U L q1 r1:Nat}(hU:U=N*P/18446744073709551616)(hL:L=N*P%18446744073709551616)(h1:q1=(U*4294967296+L/4294967296)/(y*P))(h2:r1=(U*4294967296+L/4294967296)%(y*P)):
  q1*4294967296+(r1*4294967296+L%4294967296)/(y*P)=N/y∧(r1*4294967296+L%4294967296)%(y*P)/P=N%y:=by
 have hY:0<y*P:=Nat.mul_pos hy hP;have e1:=Nat.div_add_mod (N*P) 18446744073709551616;rw[← hU,← hL]at e1;have e2:=Nat.div_add_mod (U*4294967296+L/4294967296) (y*P);rw[← h1,← h2]at e2;have e3:=Nat.div_add_mod (r1*4294967296+L%4294967296) (y*P);have l3:=Nat.mod_lt (r1*4294967296+L%4294967296) hY;obtain⟨q0,hq0⟩:∃m,(r1*4294967296+L%4294967296)/(y*P)=m:=⟨_,rfl⟩;obtain⟨r0,hr0⟩:∃m,(r1*4294967296+L%4294967296)%(y*P)=m:=⟨_,rfl⟩;rw[hq0,hr0]at e3;rw[hr0]at l3;rw[hq0,hr0];have e4:N*P=y*P*(q1*4294967296+q0)+r0:=by rw[Nat.mul_add,← Nat.mul_assoc (y*P) q1];obtain⟨m,hm⟩:∃m,y*P*q1=m:=⟨_,rfl⟩;obtain⟨n,hn⟩:∃m,y*P*q0=m:=⟨_,rfl⟩;rw[hm]at e2 ⊢;rw[hn]at e3 ⊢;omega
 clear e1 e2 e3;have e5:N*P/(y*P)=q1*4294967296+q0:=by rw[e4,Nat.mul_add_div hY,Nat.div_eq_of_lt l3,Nat.add_zero]
 have e6:N*P%(y*P)=r0:=by rw[e4,Nat.mul_add_mod,Nat.mod_eq_of_lt l3]
 rw[Nat.mul_div_mul_right N y hP]at e5;rw[Nat.mul_mod_mul_right]at e6;exact⟨e5.symm,by rw[← e6,Nat.mul_div_cancel _ hP]⟩
theorem aVa{hi lo s:Nat}(hs:s≤63)(hlo:lo<18446744073709551616):(hi*18446744073709551616+lo)*2^s/18446744073709551616=hi*2^s+lo/2^(64-s)∧lo/2^(64-s)<2^s:=by
 have e:(18446744073709551616:Nat)=2^(64-s)*2^s:=by rw[← Nat.pow_add,show 64-s+s=64 by omega]
 have hp:0<2^s:=Nat.pow_pos oo;constructor
 ·rw[Nat.add_mul,Nat.mul_right_comm,Nat.mul_comm (hi*2^s),Nat.mul_add_div oo];congr 1;rw[e,Nat.mul_div_mul_right _ _ hp]
 ·rw[Nat.div_lt_iff_lt_mul (Nat.pow_pos oo),Nat.mul_comm,← e];exact hlo
theorem aV7{hi lo s:Nat}:(hi*18446744073709551616+lo)*2^s%18446744073709551616=lo*2^s%18446744073709551616:=by rw[Nat.add_mul,Nat.mul_right_comm,Nat.mul_comm (hi*2^s),Nat.mul_add_mod]
theorem aV6{hi lo y P:Nat}(h:hi<y)(hP:0<P)(hlo:lo<18446744073709551616):(hi*18446744073709551616+lo)*P/18446744073709551616<y*P:=by
 have h1:hi*18446744073709551616+lo<y*18446744073709551616:=oo;rw[Nat.div_lt_iff_lt_mul oo];have h2:=Nat.mul_lt_mul_of_pos_right h1 hP
 rwa [Nat.mul_right_comm]at h2
