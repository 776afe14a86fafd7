import Derived.Test.YtbhchphfmhmabaaGreatP04
set_option maxHeartbeats 512000000
set_option maxRecDepth 4000
set_option linter.unusedVariables false
set_option linter.unusedSimpArgs false
namespace Go.Proofs.YtbhchphfmhmabaaGreat
open Go.RowKit _root_.Go.Proofs.Tryz
def kV(bs:List Bool)(i:Nat):Nat:=if bs.getD i false then 1 else 0
def jA(bs:List Bool)(k:Nat):Nat:=128*kV bs (8*k)+64*kV bs (8*k+1)+32*kV bs (8*k+2)+16*kV bs (8*k+3)+8*kV bs (8*k+4)+4*kV bs (8*k+5)+2*kV bs (8*k+6)+kV bs (8*k+7)
def dJ(bs:List Bool):List Int:=(List.range ((bs.length+7)/8)).map fun k=>(jA bs k:Int)
abbrev Wr(g:Nat)(A:Option Addr)(c:Nat)(bs:List Bool):List HE :=
 [.blk g 231 [.slice A (dJ bs).length c,.int .i64 bs.length],.row (.slice A (dJ bs).length c) 5 1 (dJ bs).length (aD .u8 (dJ bs))]
theorem rB(bs:List Bool):(dJ bs).length=(bs.length+7)/8:=by simp[dJ]
def mE(bs:List Bool):List Int:=if bs.length%8=0 then dJ bs++[0]else dJ bs
theorem aKe(bs:List Bool):(mE bs).length=bs.length/8+1:=by unfold mE;split<;>simp[rB]<;>omega
theorem aQk(bs:List Bool)(b:Bool)(i:Nat):kV (bs++[b]) i=kV bs i+if i=bs.length∧b=true then 1 else 0:=by
 unfold kV;rcases Nat.lt_trichotomy i bs.length with h|h|h
 ·rw[if_neg (fun e:i=bs.length∧b=true=>by omega)];simp[List.getD_eq_getElem?_getD,List.getElem?_append_left h]
 ·subst h;cases b<;>simp[List.getD_eq_getElem?_getD]
 ·rw[if_neg (fun e:i=bs.length∧b=true=>by omega)];have h1:(bs++[b])[i]? = none:=List.getElem?_eq_none (by simp;omega);have h2:bs[i]? = none:=List.getElem?_eq_none oo;simp[List.getD_eq_getElem?_getD,h1,h2]
theorem aIl(bs:List Bool)(i:Nat):kV bs i≤1:=by unfold kV;split<;>omega
theorem aIm(bs:List Bool)(i:Nat)(h:bs.length≤i):kV bs i=0:=by unfold kV;have h2:bs[i]? = none:=List.getElem?_eq_none h;simp[List.getD_eq_getElem?_getD,h2]
theorem aAz(bs:List Bool)(k:Nat):jA bs k<256:=by unfold jA;have:=aIl bs;have h0:=this (8*k);have h1:=this (8*k+1);have h2:=this (8*k+2);have h3:=this (8*k+3);have h4:=this (8*k+4);have h5:=this (8*k+5);have h6:=this (8*k+6);have h7:=this (8*k+7);omega
theorem aXv(bs:List Bool)(b:Bool)(k:Nat):jA (bs++[b]) k=jA bs k+if bs.length/8=k∧b=true then 2^(7-bs.length%8)else 0:=by
 unfold jA;simp only[aQk];cases b with
 | false=>simp
 | true =>
  simp only[and_true];by_cases hk:bs.length/8=k
  ·rw[if_pos hk];obtain h|h|h|h|h|h|h|h:bs.length%8=0∨bs.length%8=1∨bs.length%8=2∨bs.length%8=3∨bs.length%8=4∨bs.length%8=5∨bs.length%8=6∨bs.length%8=7:=oo;all_goals
    rw[h];have e:bs.length=8*k+bs.length%8:=oo;rw[h]at e;rw[e];simp;try omega
  ·rw[if_neg hk];have:∀r,r<8→¬(8*k+r=bs.length):=fun r hr e=>hk oo;have h0:=this 0 oo;have h1:=this 1 oo;have h2:=this 2 oo;have h3:=this 3 oo;have h4:=this 4 oo;have h5:=this 5 oo;have h6:=this 6 oo;have h7:=this 7 oo;rw[Nat.add_zero]at h0;simp[h0,h1,h2,h3,h4,h5,h6,h7]
theorem aMh(bs:List Bool):jA bs (bs.length/8)%2^(7-bs.length%8+1)=0:=by
 unfold jA;have o:=aIm bs;obtain h|h|h|h|h|h|h|h:bs.length%8=0∨bs.length%8=1∨bs.length%8=2∨bs.length%8=3∨bs.length%8=4∨bs.length%8=5∨bs.length%8=6∨bs.length%8=7:=oo;all_goals
  rw[h];simp only[Nat.reduceSub,Nat.reduceAdd,Nat.reducePow];try rw[o (8*(bs.length/8)) oo]
  try rw[o (8*(bs.length/8)+1) oo]
  try rw[o (8*(bs.length/8)+2) oo]
  try rw[o (8*(bs.length/8)+3) oo]
  try rw[o (8*(bs.length/8)+4) oo]
  try rw[o (8*(bs.length/8)+5) oo]
  try rw[o (8*(bs.length/8)+6) oo]
  try rw[o (8*(bs.length/8)+7) oo]
  try omega
theorem getElem?_pack(bs:List Bool)(k:Nat):(dJ bs)[k]? = if k<(bs.length+7)/8 then some (jA bs k:Int)else none:=by
 unfold dJ;rw[List.getElem?_map];by_cases h:k<(bs.length+7)/8
 ·simp[h]
 ·simp[h]
theorem aU2(bs:List Bool):(mE bs)[bs.length/8]? = some (jA bs (bs.length/8):Int):=by
 unfold mE;split
 ·rename_i h;have hz:jA bs (bs.length/8)=0:=by have h1:=aMh bs;have h2:=aAz bs (bs.length/8);rw[h]at h1;simp at h1;omega
  rw[hz,List.getElem?_append_right (by rw[rB];omega),show bs.length/8-(dJ bs).length=0 from by rw[rB];omega];rfl
 ·rw[getElem?_pack,if_pos oo]
theorem aXy(bs:List Bool)(b:Bool):dJ (bs++[b])=(mE bs).set (bs.length/8) ((jA bs (bs.length/8)+if b=true then 2^(7-bs.length%8)else 0:Nat):Int):=by
 apply List.ext_getElem?;intro k;rw[getElem?_pack,aXv,List.length_append,List.length_singleton];by_cases hk:bs.length/8=k
 ·subst hk;rw[List.getElem?_set_self (by rw[aKe];omega),if_pos oo];simp
 ·rw[List.getElem?_set_ne hk,if_neg (fun e:bs.length/8=k∧b=true=>hk e.1)];by_cases h8:bs.length%8=0
  ·rw[mE,if_pos h8];rcases Nat.lt_or_ge k (dJ bs).length with h|h
   ·rw[List.getElem?_append_left h,getElem?_pack];rw[rB]at h;rw[if_pos oo,if_pos h];simp
   ·rw[List.getElem?_append_right h];rw[rB]at h ⊢;rw[if_neg oo,List.getElem?_eq_none (by simp;omega)]
  ·rw[mE,if_neg h8,getElem?_pack];by_cases h:k<(bs.length+7)/8
   ·rw[if_pos h,if_pos oo];simp
   ·rw[if_neg h,if_neg oo]
theorem aXb:∀(x:Fin 256) (r:Fin 8),(x:Nat)%2^(7-(r:Nat)+1)=0→bits .or .u8 ((x:Nat):Int) (128/2^(r:Nat))=((x+2^(7-(r:Nat)):Nat):Int):=by decide +kernel
attribute [local irreducible] OJ J bM Code.wpIn wpListIn Oper.wpIn bodyPost CallsIn aF
theorem aEi(g c:Nat)(A:Option Addr)(bs:List Bool)(b:Bool)(w:World)(hown:aZ (Wr g A c bs) w)(hm:bs.length<1000000000):
  aF prog 221 [.pointer (some ⟨g,0,none⟩),.bool b] (Wr g A c bs) w (fun v S'=>v=.tuple #[]∧∃A' c',S'=Wr g A' c' (bs++[b])):=by
 have hpl:=rB bs;refine aJ func221 rfl ntmps221 rfl hown (fun n=>?_);simp only[aG];refine aX;refine aRc (X:=Option Addr×Nat) (fun _=>True) (fun _=>[(0,.pointer (some ⟨g,0,none⟩)),(1,.bool b)])
  (fun x=>[.blk g 231 [.slice x.1 (mE bs).length x.2,.int .i64 bs.length],.row (.slice x.1 (mE bs).length x.2) 5 1 (mE bs).length (aD .u8 (mE bs))]) ?_ ?_
 ·refine fB rfl (fun h=>?_) (fun h=>?_)
  ·have hg:mE bs=dJ bs++[0]:=if_pos (by have:=beq_iff_eq.1 h;omega);refine aX;rw[hg];exact aIs (_,_) trivial ⟨rfl,rfl,trivial⟩ (.cons (.there _ (.here _ _)) (.cons (.there _ (.here _ _)) (.nil _)))
  ·have hg:mE bs=dJ bs:=if_neg (by have:=beq_eq_false_iff_ne.1 h;omega);refine aX;rw[hg];exact aIs (A,c) trivial ⟨rfl,rfl,trivial⟩ (aA.refl _)
 ·rintro⟨A1,c1⟩ -;have hgl:=aKe bs;have hga:=aU2 bs;have hps:=aXy bs b;simp only;refine aX;refine fB rfl (fun h=>?_) (fun h=>?_)
  ·subst h;refine zB (A:=A1) (m:=(mE bs).length) (cc:=c1) oo ?_;rintro g1 rfl;refine aX;have hr:=aXb ⟨jA bs (bs.length/8),aAz _ _⟩ ⟨bs.length%8,oo⟩ (aMh bs);have e0:((bs.length:Int)/8).toNat=bs.length/8:=oo;have e3:((bs.length:Int)%8).toNat=bs.length%8:=oo;have e1:(dJ (bs++[true])).length=(mE bs).length:=by rw[hps,List.length_set]
   have e2:dJ (bs++[true])=(mE bs).set (bs.length/8) (bits .or .u8 ((mE bs).getD (bs.length/8) 0) (128/2^(bs.length%8))):=by rw[List.getD_eq_getElem?_getD,hga,Option.getD_some,hr,hps];simp
   refine nN (S':=Wr g (some ⟨g1,0,none⟩) c1 (bs++[true])) rfl ?_ ⟨rfl,_,_,rfl⟩;simp only[Wr,e0,e3,e1,List.length_append];rw[e2];exact aA.refl _
  ·subst h;refine aX;have e1:dJ (bs++[false])=mE bs:=by
    rw[hps];apply List.ext_getElem?;intro k;by_cases hk:bs.length/8=k
    ·subst hk;rw[List.getElem?_set_self oo,hga];simp
    ·rw[List.getElem?_set_ne hk]
   refine nN (S':=Wr g A1 c1 (bs++[false])) rfl ?_ ⟨rfl,_,_,rfl⟩;simp only[Wr,e1,List.length_append];exact aA.refl _
theorem aQw(g c:Nat)(A:Option Addr)(bs:List Bool)(w:World)(hown:aZ (Wr g A c bs) w)(hm:bs.length<1000000000):
  aF prog 136 [.pointer (some ⟨g,0,none⟩)] (Wr g A c bs) w
   (fun v S'=>∃A' c',v=.slice A' (dJ bs).length c'∧S'=.row (.slice A' (dJ bs).length c') 5 1 (dJ bs).length (aD .u8 (dJ bs))::Wr g A c bs):=by
 have hpl:=rB bs;refine aJ func136 rfl ntmps136 rfl hown (fun n=>?_);simp only[aG];refine aX;exact aM rfl rfl (aA.refl _) ⟨_,_,rfl,rfl⟩
theorem aM4(g c:Nat)(A:Option Addr)(bs:List Bool)(m:Nat)(w:World)(hown:aZ (Wr g A c bs) w)(hm:bs.length+m<900000000):
  aF prog 224 [.pointer (some ⟨g,0,none⟩),.int .i64 m] (Wr g A c bs) w (fun v S'=>v=.tuple #[]∧∃A' c',S'=Wr g A' c' (bs++List.replicate m true++[false])):=by
 refine aJ func224 rfl ntmps224 rfl hown (fun n=>?_);simp only[aG];refine aX;refine cG (X:=Nat×Option Addr×Nat) (fun x=>x.1≤m) (fun x=>[(0,.pointer (some ⟨g,0,none⟩)),(4,.int .i64 m),(5,.int .i64 x.1)]) (fun x=>Wr g x.2.1 x.2.2 (bs++List.replicate x.1 true)) (fun x=>m-x.1) (0,A,c) aE ⟨rfl,rfl,rfl,trivial⟩ ?_ ?_
 ·simp only[List.replicate_zero,List.append_nil];exact aA.refl _
 rintro⟨i,A1,c1⟩ hi;simp only at hi ⊢;refine aX;refine fB rfl (fun h=>?_) (fun h=>?_)
 ·have hlt:i<m:=by simpa using h
  refine aX;refine fO rfl rfl (aC.cons (.here _ _) (aC.cons (.here _ _) (aC.nil _))) rfl (fun w hw ho=>aEi g c1 A1 _ true w ho (by simp;omega)) ?_;rintro v S' ⟨rfl,A2,c2,rfl⟩;refine aX;refine aR (i+1,A2,c2) (by show i+1≤m;omega) (by show m-(i+1)<m-i;omega) (by exact⟨rfl,rfl,by simp[aI],trivial⟩) ?_;rw[List.append_assoc,show List.replicate i true++[true]=List.replicate (i+1) true from by rw[List.replicate_succ']];exact aA.refl _
 ·have hge:i=m:=by simp at h;omega
  subst hge;refine aX;refine fO rfl rfl (aC.cons (.here _ _) (aC.cons (.here _ _) (aC.nil _))) rfl (fun w hw ho=>aEi g c1 A1 _ false w ho (by simp;omega)) ?_;rintro v S' ⟨rfl,A2,c2,rfl⟩;refine aX;exact nN rfl (aA.refl _) ⟨rfl,A2,c2,rfl⟩
theorem aPx(n:Nat)(h:n<18446744073709551616):bits .and .u64 (n:Int) 1=((n%2:Nat):Int):=by
 show IntKind.u64.wrap ((BitVec.ofInt 64 (n:Int) &&& BitVec.ofInt 64 1).toNat:Int)=_;have e:(BitVec.ofInt 64 (n:Int) &&& BitVec.ofInt 64 1).toNat=n%2:=by rw[BitVec.toNat_and,BitVec.ofInt_natCast,BitVec.toNat_ofNat,Nat.mod_eq_of_lt oo];exact Nat.and_one_is_mod n
 rw[e,mJ (k:=.u64) (c:=((n%2:Nat):Int)) ⟨oo,oo⟩]
def gW(x m:Nat):List Bool:=(List.range m).map fun i=>x.testBit (m-1-i)
theorem rA(x m:Nat):(gW x m).length=m:=by simp[gW]
theorem aWz(x m i:Nat)(h:i<m):(gW x m).take (i+1)=(gW x m).take i++[x.testBit (m-1-i)]:=by rw[List.take_succ_eq_append_getElem (by rw[rA];exact h)];simp[gW]
theorem aG8(g c:Nat)(A:Option Addr)(bs:List Bool)(x m:Nat)(w:World)(hown:aZ (Wr g A c bs) w)(hm:bs.length<800000000)(hx:x<18446744073709551616)(h64:m≤64):
  aF prog 180 [.pointer (some ⟨g,0,none⟩),.int .u64 x,.int .i64 m] (Wr g A c bs) w (fun v S'=>v=.tuple #[]∧∃A' c',S'=Wr g A' c' (bs++gW x m)):=by
 have hnl:=rA x m;refine aJ func180 rfl ntmps180 rfl hown (fun n=>?_);simp only[aG];refine aX;refine cG (X:=Nat×Option Addr×Nat) (fun x=>x.1≤m) (fun y=>[(0,.pointer (some ⟨g,0,none⟩)),(1,.int .u64 x),(2,.int .i64 m),(8,.int .i64 m),(9,.int .i64 y.1)]) (fun y=>Wr g y.2.1 y.2.2 (bs++(gW x m).take y.1)) (fun y=>m-y.1) (0,A,c) aE ⟨rfl,rfl,rfl,rfl,rfl,trivial⟩ ?_ ?_
 ·simp only[List.take_zero,List.append_nil];exact aA.refl _
 rintro⟨i,A1,c1⟩ hi;simp only at hi ⊢;refine aX;refine fB rfl (fun h=>?_) (fun h=>?_)
 ·have hlt:i<m:=by simpa using h
  refine aX;refine nM 19 rfl (fun h2=>?_) (fun h2=>by exfalso;simp at h2;omega);refine aX;have hx2:x/2^(m-1-i)<18446744073709551616:=Nat.lt_of_le_of_lt (Nat.div_le_self _ _) hx;have hb:(bits .and .u64 ((x:Int)/2^((m:Int)-1-i).toNat) 1==1)=x.testBit (m-1-i):=by
   have e:(x:Int)/2^((m:Int)-1-i).toNat=((x/2^(m-1-i):Nat):Int):=by rw[show ((m:Int)-1-i).toNat=m-1-i from by omega];push_cast;rfl
   rw[e,aPx _ hx2];rw[Nat.testBit_eq_decide_div_mod_eq,Bool.eq_iff_iff];simp only[beq_iff_eq,decide_eq_true_eq];omega
  rw[hb];refine fO rfl rfl (aC.cons (.here _ _) (aC.cons (.here _ _) (aC.nil _))) rfl (fun w hw ho=>aEi g c1 A1 _ _ w ho (by simp;omega)) ?_;rintro v S' ⟨rfl,A2,c2,rfl⟩;refine aX;refine aR (i+1,A2,c2) (by show i+1≤m;omega) (by show m-(i+1)<m-i;omega) (by exact⟨rfl,rfl,rfl,rfl,by simp[aI],trivial⟩) ?_;rw[aWz x m i hlt,← List.append_assoc];exact aA.refl _
 ·have hge:i=m:=by simp at h;omega
  subst hge;refine aX;rw[List.take_of_length_le oo];exact nN rfl (aA.refl _) ⟨rfl,A1,c1,rfl⟩
abbrev Rd(g:Nat)(A:Option Addr)(c:Nat)(ys:List Int)(p:Nat)(wr:Bool):List HE :=
 [.blk g 372 [.slice A ys.length c,.int .i64 p,.bool wr],.row (.slice A ys.length c) 5 1 ys.length (aD .u8 ys)]
theorem aZu(u:Value)(ys:List Int)(w:World)(hr:Ro w (bB []) 1 u ys.length (aD .u8 ys))(hm:ys.length<100000000):
  aF prog 225 [u] [] w (fun v S'=>∃g A' c',v=.pointer (some ⟨g,0,none⟩)∧S'=Rd g A' c' ys 0 false):=by
 refine aJ func225 rfl ntmps225 rfl ⟨aE,.nil⟩ (fun n=>?_);simp only[aG];have:=RoC.mk hr;refine aX;exact aM rfl rfl (aA.refl _) ⟨_,_,_,rfl,rfl⟩
theorem wS(g c:Nat)(A:Option Addr)(ys:List Int)(p:Nat)(wr:Bool)(w:World)(hown:aZ (Rd g A c ys p wr) w):
  aF prog 254 [.pointer (some ⟨g,0,none⟩)] (Rd g A c ys p wr) w (fun v S'=>v=.bool (!wr)∧S'=Rd g A c ys p wr):=by
 refine aJ func254 rfl ntmps254 rfl hown (fun n=>?_);simp only[aG];refine aX;exact aM rfl rfl (aA.refl _) ⟨rfl,rfl⟩
theorem zD(g c:Nat)(A:Option Addr)(ys:List Int)(p:Nat)(wr:Bool)(w:World)(hown:aZ (Rd g A c ys p wr) w)(hm:ys.length<100000000)(hp:p≤8*ys.length):
  aF prog 257 [.pointer (some ⟨g,0,none⟩)] (Rd g A c ys p wr) w (fun v S'=>v=.int .i64 (8*ys.length-p)∧S'=Rd g A c ys p wr):=by
 refine aJ func257 rfl ntmps257 rfl hown (fun n=>?_);simp only[aG];refine aX;exact aM rfl rfl (aA.refl _) ⟨rfl,rfl⟩
def jE(ys:List Int)(i:Nat):Bool:=bits .and .u8 (ys.getD (i/8) 0) (128/2^(i%8)) != 0
theorem aDe(g c:Nat)(A:Option Addr)(ys:List Int)(p:Nat)(w:World)(hown:aZ (Rd g A c ys p false) w)(hm:ys.length<100000000)(hp:p<8*ys.length):
  aF prog 258 [.pointer (some ⟨g,0,none⟩)] (Rd g A c ys p false) w (fun v S'=>v=.bool (jE ys p)∧S'=Rd g A c ys (p+1) false):=by
 refine aJ func258 rfl ntmps258 rfl hown (fun n=>?_);simp only[aG];refine aX;refine sC (v:=.int .i64 (8*ys.length-p)) rfl rfl (aC.cons (.here _ _) (aC.cons (.here _ _) (aC.nil _))) (aA.refl _) rfl (fun w hw ho=>zD g c A ys p false w ho hm oo) ?_;refine aX;refine fB rfl (fun h=>by exfalso;simp at h;omega) (fun h=>?_);refine aX;refine zB (A:=A) (m:=ys.length) (cc:=c) oo ?_;rintro g1 rfl;refine aX;have e0:((p:Int)/8).toNat=p/8:=oo;have e3:((p:Int)%8).toNat=p%8:=oo;rw[e0,e3];exact aM rfl rfl (aA.refl _) ⟨rfl,rfl⟩
theorem aZt(g c:Nat)(A:Option Addr)(ys:List Int)(p:Nat)(wr:Bool)(w:World)(hown:aZ (Rd g A c ys p wr) w)(hm:ys.length<100000000)(hp:wr=true∧p≤8*ys.length∨p=8*ys.length):
  aF prog 258 [.pointer (some ⟨g,0,none⟩)] (Rd g A c ys p wr) w (fun v S'=>v=.bool false∧S'=Rd g A c ys p true):=by
 refine aJ func258 rfl ntmps258 rfl hown (fun n=>?_);simp only[aG];cases wr with
 | true =>
  refine aX;exact aM rfl rfl (aA.refl _) ⟨rfl,rfl⟩
 | false =>
  refine aX;refine sC (v:=.int .i64 (8*ys.length-p)) rfl rfl (aC.cons (.here _ _) (aC.cons (.here _ _) (aC.nil _))) (aA.refl _) rfl (fun w hw ho=>zD g c A ys p false w ho hm oo) ?_;refine aX;have hp':p=8*ys.length:=by rcases hp with⟨h,-⟩|h;cases h;exact h
  refine fB rfl (fun h=>?_) (fun h=>by exfalso;simp at h;omega);refine aX;exact aM rfl rfl (aA.refl _) ⟨rfl,rfl⟩
def kY(ys:List Int)(p:Nat):Nat→Nat
 | 0=>0
 | k+1=>2*kY ys p k+if jE ys (p+k)then 1 else 0
theorem aD0(ys:List Int)(p k:Nat):kY ys p k<2^k:=by
 induction k with
 | zero=>simp[kY]
 | succ k ih=>simp only[kY,Nat.pow_succ];split<;>omega
theorem aXd(v:Nat)(h:2*v+1<18446744073709551616):bits .or .u64 ((2*v:Nat):Int) 1=((2*v+1:Nat):Int):=by
 have e:(2*v) ||| 1=2*v+1:=by have:=Nat.two_pow_add_eq_or_of_lt (i:=1) (b:=1) oo v;simpa using this.symm
 have h1:(BitVec.ofInt 64 ((2*v:Nat):Int) ||| BitVec.ofInt 64 1).toNat=2*v+1:=by rw[BitVec.toNat_or,BitVec.ofInt_natCast,BitVec.toNat_ofNat,Nat.mod_eq_of_lt oo];exact e
 show IntKind.u64.wrap ((BitVec.ofInt 64 ((2*v:Nat):Int) ||| BitVec.ofInt 64 1).toNat:Int)=_;rw[h1,mJ];exact⟨oo,oo⟩
theorem bA2(g c:Nat)(A:Option Addr)(ys:List Int)(p m:Nat)(w:World)(hown:aZ (Rd g A c ys p false) w)(hm:ys.length<100000000)(hp:p+m≤8*ys.length)(h64:m≤63):
  aF prog 253 [.pointer (some ⟨g,0,none⟩),.int .i64 m] (Rd g A c ys p false) w (fun v S'=>v=.int .u64 (kY ys p m)∧S'=Rd g A c ys (p+m) false):=by
 refine aJ func253 rfl ntmps253 rfl hown (fun n=>?_);simp only[aG];refine aX;refine nM 8 rfl (fun h=>by exfalso;simp at h;omega) (fun h=>?_);refine aX;refine sC (v:=.int .i64 (8*ys.length-p)) rfl rfl (aC.cons (.here _ _) (aC.cons (.here _ _) (aC.nil _))) (aA.refl _) rfl (fun w hw ho=>zD g c A ys p false w ho hm oo) ?_;refine aX;refine nM 14 rfl (fun h=>by exfalso;simp at h;omega) (fun h=>?_);refine aX;refine cG (X:=Nat) (fun i=>i≤m) (fun i=>[(0,.pointer (some ⟨g,0,none⟩)),(1,.int .i64 m),(5,.int .u64 (kY ys p i)),(23,.int .i64 m),(24,.int .i64 i)]) (fun i=>Rd g A c ys (p+i) false) (fun i=>m-i) 0 aE ⟨rfl,rfl,rfl,rfl,rfl,trivial⟩ (aA.refl _) ?_;intro i hi;refine aX;refine fB rfl (fun h=>?_) (fun h=>?_)
 ·have hlt:i<m:=by simpa using h
  have hv:=aD0 ys p i;have h2:2^i*4≤2^64:=by rw[show (4:Nat)=2^2 from rfl,← Nat.pow_add];exact Nat.pow_le_pow_right oo oo
  rw[show (2:Nat)^64=18446744073709551616 from by decide]at h2;refine aX;rw[show (kY ys p i:Int)*2^1=((2*kY ys p i:Nat):Int)from by omega];refine fO rfl rfl (aC.cons (.here _ _) (aC.cons (.here _ _) (aC.nil _))) rfl (fun w hw ho=>aDe g c A ys (p+i) w ho hm oo) ?_;rintro v S' ⟨rfl,rfl⟩;refine aX;have hor:=aXd (kY ys p i) oo;refine fB rfl (fun hb=>?_) (fun hb=>?_)
  ·have e1:kY ys p (i+1)=2*kY ys p i+1:=by simp[kY,hb]
   refine aX;refine aR (i+1) (by show i+1≤m;omega) (by show m-(i+1)<m-i;omega) (by refine⟨rfl,rfl,?_,rfl,by simp[aI],trivial⟩;rw[e1,← hor];rfl) ?_;exact(aA.refl _)
  ·have e1:kY ys p (i+1)=2*kY ys p i:=by simp[kY,hb]
   refine aX;refine aR (i+1) (by show i+1≤m;omega) (by show m-(i+1)<m-i;omega) (by refine⟨rfl,rfl,?_,rfl,by simp[aI],trivial⟩;rw[e1];rfl) ?_;exact(aA.refl _)
 ·have hge:i=m:=by simp at h;omega
  subst hge;refine aX;exact aM rfl rfl (aA.refl _) ⟨rfl,rfl⟩
theorem bA1(g c:Nat)(A:Option Addr)(ys:List Int)(p m:Nat)(wr:Bool)(w:World)(hown:aZ (Rd g A c ys p wr) w)(hm:ys.length<100000000)(hp:p≤8*ys.length)(h64:m≤63)(hno:wr=true∨8*ys.length<p+m):
  aF prog 253 [.pointer (some ⟨g,0,none⟩),.int .i64 m] (Rd g A c ys p wr) w (fun v S'=>v=.int .u64 0∧S'=Rd g A c ys p true):=by
 refine aJ func253 rfl ntmps253 rfl hown (fun n=>?_);simp only[aG];refine aX;refine nM 8 rfl (fun h=>by exfalso;simp at h;omega) (fun h=>?_);refine aX;refine sC (v:=.int .i64 (8*ys.length-p)) rfl rfl (aC.cons (.here _ _) (aC.cons (.here _ _) (aC.nil _))) (aA.refl _) rfl (fun w hw ho=>zD g c A ys p wr w ho hm oo) ?_;refine aX;refine nM 14 rfl (fun h=>?_) (fun h=>?_)
 ·refine aX;exact aM rfl rfl (aA.refl _) ⟨rfl,rfl⟩
 ·obtain rfl:wr=true:=by rcases hno with e|e;exact e;exfalso;simp at h;omega
  refine aX;exact aM rfl rfl (aA.refl _) ⟨rfl,rfl⟩
theorem bA5(g c:Nat)(A:Option Addr)(ys:List Int)(p m j:Nat)(w:World)(hown:aZ (Rd g A c ys p false) w)(hm:ys.length<100000000)(hj:j≤m)(hp:p+j<8*ys.length)(hm2:m<1000000)
  (h1:∀i,i<j→jE ys (p+i)=true) (h0:jE ys (p+j)=false) :
  aF prog 272 [.pointer (some ⟨g,0,none⟩),.int .i64 m] (Rd g A c ys p false) w (fun v S'=>v=.int .i64 j∧S'=Rd g A c ys (p+j+1) false):=by
 refine aJ func272 rfl ntmps272 rfl hown (fun n=>?_);simp only[aG];refine aX;refine cG (X:=Nat) (fun i=>i≤j) (fun i=>[(0,.pointer (some ⟨g,0,none⟩)),(1,.int .i64 m),(5,.int .i64 i)]) (fun i=>Rd g A c ys (p+i) false) (fun i=>j-i) 0 aE ⟨rfl,rfl,rfl,trivial⟩ (aA.refl _) ?_;intro i hi;refine aX;refine fO rfl rfl (aC.cons (.here _ _) (aC.cons (.here _ _) (aC.nil _))) rfl (fun w hw ho=>aDe g c A ys (p+i) w ho hm oo) ?_;rintro v S' ⟨rfl,rfl⟩;by_cases hlt:i<j
 ·rw[h1 i hlt];refine aX;refine fB rfl (fun h=>by exfalso;simp at h;omega) (fun h=>?_);refine aX;exact aR (i+1) (by show i+1≤j;omega) (by show j-(i+1)<j-i;omega) (by exact⟨rfl,rfl,by simp[aI],trivial⟩) (aA.refl _)
 ·obtain rfl:i=j:=oo;rw[h0];refine aX;exact aM rfl rfl (aA.refl _) ⟨rfl,rfl⟩
theorem bA4(g c:Nat)(A:Option Addr)(ys:List Int)(p m:Nat)(w:World)(hown:aZ (Rd g A c ys p false) w)(hm:ys.length<100000000)(hp:p≤8*ys.length)(hm2:m<1000000)
  (hno:∀j,j≤m→p+j<8*ys.length→(∀i,i<j→jE ys (p+i)=true)→jE ys (p+j)=true) :
  aF prog 272 [.pointer (some ⟨g,0,none⟩),.int .i64 m] (Rd g A c ys p false) w (fun v S'=>v=.int .i64 0∧∃p',p'≤8*ys.length∧S'=Rd g A c ys p' true):=by
 refine aJ func272 rfl ntmps272 rfl hown (fun n=>?_);simp only[aG];refine aX;refine cG (X:=Nat) (fun i=>i≤m∧p+i≤8*ys.length∧∀k,k<i→jE ys (p+k)=true) (fun i=>[(0,.pointer (some ⟨g,0,none⟩)),(1,.int .i64 m),(5,.int .i64 i)]) (fun i=>Rd g A c ys (p+i) false) (fun i=>m-i) 0 (by simp;omega) ⟨rfl,rfl,rfl,trivial⟩ (aA.refl _) ?_;rintro i ⟨hi1,hi2,hi3⟩;refine aX;by_cases hlt:p+i<8*ys.length
 ·have hb:=hno i hi1 hlt hi3;refine fO rfl rfl (aC.cons (.here _ _) (aC.cons (.here _ _) (aC.nil _))) rfl (fun w hw ho=>aDe g c A ys (p+i) w ho hm oo) ?_;rintro v S' ⟨rfl,rfl⟩;rw[hb];refine aX;refine fB rfl (fun h=>?_) (fun h=>?_)
  ·refine aX;exact aM rfl rfl (aA.refl _) ⟨rfl,p+i+1,oo,rfl⟩
  ·have hlm:i<m:=by simp at h;omega
   refine aX;refine aR (i+1) ⟨oo,oo,fun k hk=>?_⟩ (by show m-(i+1)<m-i;omega) (by exact⟨rfl,rfl,by simp[aI],trivial⟩) (aA.refl _);by_cases e:k=i
   ·subst e;exact hb
   ·exact hi3 k oo
 ·refine fO rfl rfl (aC.cons (.here _ _) (aC.cons (.here _ _) (aC.nil _))) rfl (fun w hw ho=>aZt g c A ys (p+i) false w ho hm (.inr oo)) ?_;rintro v S' ⟨rfl,rfl⟩;refine aX;exact aM rfl rfl (aA.refl _) ⟨rfl,p+i,oo,rfl⟩
