import Derived.Laws.BitsAllLaws
import Derived.Test.YtpmkboockihdbaaGreatP09
import Derived.Test.YtpmkboockihdbaaGreatP12
import Derived.Test.YtpmkboockihdbaaGreatP13
set_option maxHeartbeats 512000000
set_option maxRecDepth 4000
set_option linter.unusedVariables false
set_option linter.unusedSimpArgs false
namespace Go.Proofs.YtpmkboockihdbaaGreat
open _root_.Go.Proofs.Tryz
def lD(ys:List Int):List Int:=ys++dE (rH ys) 4
theorem zU(ys:List Int):(lD ys).length=ys.length+4:=by simp[lD,fD]
theorem dV.app{a b:List Int}(h:dV a)(g:dV b):dV (a++b):=fun x hx=>(List.mem_append.1 hx).elim (h x) (g x)
theorem aKa{ys:List Int}(h:dV ys):dV (lD ys):=dV.app h (vF _ _)
def qQ(ys:List Int):Prop:=4≤ys.length∧ys.drop (ys.length-4)=dE (rH (ys.take (ys.length-4))) 4
instance (ys:List Int):Decidable (qQ ys):=by unfold qQ;infer_instance
theorem aK8(ys:List Int):qQ (lD ys):=by refine⟨by rw[zU];omega,?_⟩;rw[zU,Nat.add_sub_cancel];unfold lD;rw[List.drop_left,List.take_left]
theorem aT7{ys:List Int}(h:qQ ys):ys=lD (ys.take (ys.length-4)):=by unfold lD;rw[← h.2,List.take_append_drop]
def qH(ys:List Int)(a n:Nat):List Int:=(ys.drop a).take n
theorem aOb{ys:List Int}{a n:Nat}(h:a+n≤ys.length):(qH ys a n).length=n:=by simp[qH];omega
theorem aOc{ys:List Int}(h:dV ys)(a n:Nat):dV (qH ys a n):=fun x hx=>h x (List.mem_of_mem_drop (List.mem_of_mem_take hx))
theorem mJ(a r:List Int){m i k n:Nat}(ha:a.length=m)(hk:k=m+i):qH (a++r) k n=qH r i n:=by subst ha hk;unfold qH;rw[List.drop_append,List.drop_eq_nil_of_le oo,List.nil_append,Nat.add_sub_cancel_left]
theorem wB(b c:List Int){n:Nat}(hb:b.length=n):qH (b++c) 0 n=b:=by subst hb;simp[qH]
theorem bAt(a b c:List Int){i n:Nat}(ha:a.length=i)(hb:b.length=n):qH (a++b++c) i n=b:=by rw[List.append_assoc,mJ a _ ha (Nat.add_zero _).symm,wB b c hb]
def dW(ys:List Int)(a n:Nat):Nat:=oZ (qH ys a n)
theorem sY{ys:List Int}(h:dV ys){a n:Nat}(hn:a+n≤ys.length):dW ys a n<256^n:=by have:=aXe (aOc h a n);rw[aOb hn]at this;exact this
def nT(W H:Nat):Nat:=bG W*bG H
def gM(W H:Nat):Nat:=22+6*nT W H
def tX(W i:Nat):Int:=((i%bG W:Nat):Int)
def tY(W i:Nat):Int:=((i/bG W:Nat):Int)
def eM(W H i:Nat):Nat:=(dA W H (tX W i) (tY W i)).2.2.1
def pH(W H i:Nat):Nat:=(dA W H (tX W i) (tY W i)).2.2.2
def kM(W H:Nat)(z:List Int)(i:Nat):List Int:=rW W H z (tX W i) (tY W i)
def rF(wd:Nat)(z:List Int):List Int:=dT (fN (eU z wd))
def qK(W H:Nat)(z:List Int)(i:Nat):List Int:=lD (rF (eM W H i) (kM W H z i))
def kB(W H:Nat)(z:List Int):Nat→List Int
 | 0=>[]
 | i+1=>kB W H z i++qK W H z i
def rJ(x:Int):Nat:=(x%4294967296).toNat
def uG(W H cell:Nat)(ox oy:Int):List Int:=dE 1296978516 4++dE W 2++dE H 2++dE cell 2++dE (rJ ox) 4++dE (rJ oy) 4
def mC(W H cell:Nat)(ox oy:Int)(z:List Int):Nat→List Int
 | 0=>uG W H cell ox oy
 | i+1=>mC W H cell ox oy z i++dE (gM W H+(kB W H z i).length) 4++dE (qK W H z i).length 2
def fR(W H cell:Nat)(ox oy:Int)(z:List Int):List Int:=lD (mC W H cell ox oy z (nT W H))++kB W H z (nT W H)
theorem aNs(wd:Nat)(z:List Int)(h:z.length≤256):1≤(rF wd z).length∧(rF wd z).length≤1220:=by have hrl:=aO0 (eU z wd);have hbk:=vE (eU z wd);have hbs:=aAp (eU z wd) (gQ (eU z wd)) hbk;have hdl:=vK z wd;have hpl:=sE (fN (eU z wd));unfold rF;omega
theorem aNt(wd:Nat)(z:List Int):dV (rF wd z):=aYe _
theorem aK0{W:Nat}(h:2≤W):1≤bG W:=by unfold bG;omega
theorem wW{W:Nat}(h:W≤256):bG W≤16:=by unfold bG;omega
theorem xH{W H:Nat}(h:W≤256∧H≤256):nT W H≤256:=by have:=Nat.mul_le_mul (wW h.1) (wW h.2);unfold nT;omega
theorem aWw{W H:Nat}(h:2≤W∧2≤H):1≤nT W H:=Nat.mul_pos (aK0 h.1) (aK0 h.2)
theorem aIb{W H i:Nat}(hi:i<nT W H):i%bG W<bG W∧i/bG W<bG H:=by
 unfold nT at hi;have hp:0<bG W:=by
  rcases Nat.eq_zero_or_pos (bG W) with e|e
  ·rw[e,Nat.zero_mul]at hi;omega
  ·exact e
 exact⟨Nat.mod_lt _ hp,Nat.div_lt_of_lt_mul hi⟩
theorem aBv{W H i:Nat}(hi:i<nT W H):1≤eM W H i∧eM W H i≤16∧1≤pH W H i∧pH W H i≤16:=by obtain⟨h1,h2⟩:=aIb hi;unfold eM pH tX tY;rw[aCh h1 h2];generalize i%bG W=x at *;generalize i/bG W=y at *;unfold bG at h1 h2;simp only;omega
theorem aCw{W H i:Nat}{z:List Int}(hz:z.length=W*H):(kM W H z i).length=eM W H i*pH W H i:=by have hbx:=wO W H (tX W i) (tY W i);unfold kM rW eM pH;rw[zV hz hbx.1 hbx.2.1 _ (Nat.le_refl _),Nat.mul_comm]
theorem aCv{W H i:Nat}{z:List Int}(hz:z.length=W*H):(kM W H z i).length≤256:=by have hbx:=wO W H (tX W i) (tY W i);have:=Nat.mul_le_mul hbx.2.2.1 hbx.2.2.2;rw[aCw hz];exact this
theorem aIa{W H i:Nat}{z:List Int}(hz:z.length=W*H):5≤(qK W H z i).length∧(qK W H z i).length≤1224:=by have:=aNs (eM W H i) _ (aCv (i:=i) hz);unfold qK;rw[zU];omega
theorem bC2(W H i:Nat)(z:List Int):dV (qK W H z i):=aKa (aNt _ _)
theorem aJf(W H:Nat)(z:List Int):∀i,dV (kB W H z i)
 | 0=>by intro x hx;simp[kB]at hx
 | i+1=>dV.app (aJf W H z i) (bC2 W H i z)
theorem aCg{W H:Nat}{z:List Int}(hz:z.length=W*H):∀i,(kB W H z i).length≤1224*i
 | 0=>by simp[kB]
 | i+1=>by have:=aCg hz i;have:=aIa (i:=i) hz;rw[kB,List.length_append];omega
theorem aUw(W H cell:Nat)(ox oy:Int):(uG W H cell ox oy).length=18:=by simp[uG,fD]
theorem aUx(W H cell:Nat)(ox oy:Int):dV (uG W H cell ox oy):=dV.app (dV.app (dV.app (dV.app (dV.app (vF _ _) (vF _ _)) (vF _ _)) (vF _ _)) (vF _ _)) (vF _ _)
theorem aCx(W H cell:Nat)(ox oy:Int)(z:List Int):∀i,(mC W H cell ox oy z i).length=18+6*i
 | 0=>aUw ..
 | i+1=>by rw[mC,List.length_append,List.length_append,aCx W H cell ox oy z i,fD,fD];omega
theorem aCy(W H cell:Nat)(ox oy:Int)(z:List Int):∀i,dV (mC W H cell ox oy z i)
 | 0=>aUx W H cell ox oy
 | i+1=>dV.app (dV.app (aCy W H cell ox oy z i) (vF _ _)) (vF _ _)
theorem aSk(W H cell:Nat)(ox oy:Int)(z:List Int):dV (fR W H cell ox oy z):=dV.app (aKa (aCy W H cell ox oy z _)) (aJf W H z _)
theorem aG5(W H cell:Nat)(ox oy:Int)(z:List Int):(lD (mC W H cell ox oy z (nT W H))).length=gM W H:=by rw[zU,aCx];unfold gM;omega
theorem aJu(W H cell:Nat)(ox oy:Int)(z:List Int):(fR W H cell ox oy z).length=gM W H+(kB W H z (nT W H)).length:=by unfold fR;rw[List.length_append,aG5]
theorem aFj(W H cell:Nat)(ox oy:Int)(z:List Int)(i:Nat):∀k,∃t,mC W H cell ox oy z (i+k)=mC W H cell ox oy z i++t
 | 0=>⟨[],aE⟩
 | k+1=>by obtain⟨t,h⟩:=aFj W H cell ox oy z i k;rw[← Nat.add_assoc,mC,h,List.append_assoc,List.append_assoc];exact⟨_,rfl⟩
theorem aJe(W H:Nat)(z:List Int)(i:Nat):∀k,∃t,kB W H z (i+k)=kB W H z i++t
 | 0=>⟨[],aE⟩
 | k+1=>by obtain⟨t,h⟩:=aJe W H z i k;rw[← Nat.add_assoc,kB,h,List.append_assoc];exact⟨_,rfl⟩
def wY(ys:List Int):Nat:=dW ys 4 2
def hY(ys:List Int):Nat:=dW ys 6 2
def nW(ys:List Int):Nat:=dW ys 8 2
def vO(ys:List Int)(i:Nat):Nat:=dW ys (18+6*i) 4
def lN(ys:List Int)(i:Nat):Nat:=dW ys (18+6*i+4) 2
def fP(ys:List Int):Nat→Nat
 | 0=>gM (wY ys) (hY ys)
 | i+1=>fP ys i+lN ys i
def nY(ys:List Int):Nat:=nT (wY ys) (hY ys)
def rE(ys:List Int):Prop:=2≤wY ys∧wY ys≤256∧2≤hY ys∧hY ys≤256∧1≤nW ys∧nW ys≤1000
instance (ys:List Int):Decidable (rE ys):=by unfold rE;infer_instance
def mG(ys:List Int):Int :=
 if ys.length<18 then 5 else if dW ys 0 4≠1296978516 then 3 else if ¬rE ys then 2 else if ys.length<gM (wY ys) (hY ys)then 5
 else if ¬qQ (ys.take (gM (wY ys) (hY ys)))then 4 else if ¬(∀i,i<nY ys→vO ys i=fP ys i)then 2 else if fP ys (nY ys)≠ys.length then 5 else 0
structure yC(ys:List Int):Prop where
 len:18≤ys.length
 mag:dW ys 0 4=1296978516
 rng:rE ys
 head:gM (wY ys) (hY ys)≤ys.length
 sum:qQ (ys.take (gM (wY ys) (hY ys)))
 dir:∀i,i<nY ys→vO ys i=fP ys i
 size:fP ys (nY ys)=ys.length
theorem aMz(ys:List Int):mG ys=0↔yC ys:=by
 unfold mG;constructor
 ·intro h;repeat' (split at h;omega)
  constructor<;>first|assumption|omega|(apply Decidable.of_not_not;assumption)
 ·intro h;obtain⟨h1,h2,h3,h4,h5,h6,h7⟩:=h;rw[if_neg oo,if_neg oo,if_neg (fun e=>e h3),if_neg oo,if_neg (fun e=>e h5),if_neg (fun e=>e h6),if_neg oo]
theorem aJa(ys:List Int)(i:Nat):∀k,fP ys i≤fP ys (i+k)
 | 0=>Nat.le_refl _
 | k+1=>by have:=aJa ys i k;rw[← Nat.add_assoc,fP];omega
def pD(ys:List Int)(i:Nat):List Int:=qH ys (fP ys i) (lN ys i)
theorem yC.in_{ys:List Int}(h:yC ys){i:Nat}(hi:i<nY ys):fP ys i+lN ys i≤ys.length:=by have:=aJa ys (i+1) (nY ys-(i+1));rw[show i+1+(nY ys-(i+1))=nY ys by omega,h.size,fP]at this;exact this
section
variable {W H cell:Nat} {ox oy:Int} {z:List Int}
theorem aSj:∃t,fR W H cell ox oy z=uG W H cell ox oy++t:=by obtain⟨t,h⟩:=aFj W H cell ox oy z 0 (nT W H);rw[Nat.zero_add]at h;unfold fR lD;rw[h,mC,List.append_assoc,List.append_assoc];exact⟨_,rfl⟩
theorem xF{ys:List Int}{a n x:Nat}(h:qH ys a n=dE x n)(hx:x<256^n):dW ys a n=x:=by unfold dW;rw[h,aMt,Nat.mod_eq_of_lt hx]
theorem aAd(x:Int):rJ x<256^4:=by unfold rJ;omega
theorem aAw(hW:W≤256∧H≤256∧cell≤1000):dW (fR W H cell ox oy z) 0 4=1296978516∧wY (fR W H cell ox oy z)=W∧hY (fR W H cell ox oy z)=H∧nW (fR W H cell ox oy z)=cell∧dW (fR W H cell ox oy z) 10 4=rJ ox∧dW (fR W H cell ox oy z) 14 4=rJ oy:=by
 obtain⟨t,h⟩:=aSj (W:=W) (H:=H) (cell:=cell) (ox:=ox) (oy:=oy) (z:=z);unfold wY hY nW;rw[h];unfold uG;simp only[List.append_assoc];refine⟨xF (wB _ _ (fD ..)) oo,xF ?_ oo,xF ?_ oo,xF ?_ oo,xF ?_ (aAd _),xF ?_ (aAd _)⟩
 ·rw[mJ _ _ (fD ..) (i:=0) rfl,wB _ _ (fD ..)]
 ·rw[mJ _ _ (fD ..) (i:=2) rfl,mJ _ _ (fD ..) (i:=0) rfl,wB _ _ (fD ..)]
 ·rw[mJ _ _ (fD ..) (i:=4) rfl,mJ _ _ (fD ..) (i:=2) rfl,mJ _ _ (fD ..) (i:=0) rfl,wB _ _ (fD ..)]
 ·rw[mJ _ _ (fD ..) (i:=6) rfl,mJ _ _ (fD ..) (i:=4) rfl,mJ _ _ (fD ..) (i:=2) rfl,mJ _ _ (fD ..) (i:=0) rfl,wB _ _ (fD ..)]
 ·rw[mJ _ _ (fD ..) (i:=10) rfl,mJ _ _ (fD ..) (i:=8) rfl,mJ _ _ (fD ..) (i:=6) rfl,mJ _ _ (fD ..) (i:=4) rfl,mJ _ _ (fD ..) (i:=0) rfl,wB _ _ (fD ..)]
theorem aFc(hW:W≤256∧H≤256)(hz:z.length=W*H){i:Nat}(hi:i<nT W H):vO (fR W H cell ox oy z) i=gM W H+(kB W H z i).length∧lN (fR W H cell ox oy z) i=(qK W H z i).length:=by
 obtain⟨t,h⟩:=aFj W H cell ox oy z (i+1) (nT W H-(i+1));rw[show i+1+(nT W H-(i+1))=nT W H by omega]at h;have hn:=xH hW;have hb:=aCg hz i;have ht:=aIa (i:=i) hz;have hd:=aCx W H cell ox oy z i;unfold vO lN fR lD;rw[h,mC];simp only[List.append_assoc];refine⟨xF ?_ (by unfold gM;omega),xF ?_ oo⟩
 ·rw[mJ _ _ hd (Nat.add_zero _).symm,wB _ _ (fD ..)]
 ·rw[mJ _ _ hd (i:=4) rfl,mJ _ _ (fD ..) (i:=0) rfl,wB _ _ (fD ..)]
theorem aCn(hW:W≤256∧H≤256∧cell≤1000)(hz:z.length=W*H):∀i,i≤nT W H→fP (fR W H cell ox oy z) i=gM W H+(kB W H z i).length
 | 0,_=>by
  obtain⟨-,h1,h2,-⟩:=aAw (ox:=ox) (oy:=oy) (z:=z) hW;rw[fP,h1,h2];rfl
 | i+1,hi=>by rw[fP,aCn hW hz i oo,(aFc ⟨hW.1,hW.2.1⟩ hz oo).2,kB,List.length_append];omega
theorem aSn(hW:W≤256∧H≤256∧cell≤1000)(hz:z.length=W*H){i:Nat}(hi:i<nT W H):pD (fR W H cell ox oy z) i=qK W H z i:=by obtain⟨t,h⟩:=aJe W H z (i+1) (nT W H-(i+1));rw[show i+1+(nT W H-(i+1))=nT W H by omega]at h;unfold pD;rw[aCn hW hz i oo,(aFc ⟨hW.1,hW.2.1⟩ hz hi).2];unfold fR;rw[mJ _ _ (aG5 ..) rfl,h,kB];exact bAt _ _ _ rfl rfl
theorem aJx(hW:2≤W∧W≤256∧2≤H∧H≤256∧1≤cell∧cell≤1000)(hz:z.length=W*H):yC (fR W H cell ox oy z):=by
 have hw:W≤256∧H≤256∧cell≤1000:=oo;obtain⟨h1,h2,h3,h4,-⟩:=aAw (ox:=ox) (oy:=oy) (z:=z) hw;have hl:=aJu W H cell ox oy z;refine⟨by rw[hl];unfold gM;omega,h1,⟨oo,oo,oo,oo,oo,oo⟩,by rw[h2,h3,hl];omega,?_,?_,?_⟩
 ·rw[h2,h3];unfold fR;rw[List.take_left' (aG5 ..)];exact aK8 _
 ·unfold nY;rw[h2,h3];intro i hi;rw[(aFc ⟨hw.1,hw.2.1⟩ hz hi).1,aCn hw hz i oo]
 ·unfold nY;rw[h2,h3,aCn hw hz _ (Nat.le_refl _),hl]
end
def uX(W H:Nat)(z g:List Int)(i:Nat):Prop:=g.length=W*H∧∀x y,x<W→y<H→(y/16)*bG W+x/16<i→g.getD (y*W+x) 0=z.getD (y*W+x) 0
theorem uX.zero{W H:Nat}{z g:List Int}(h:g.length=W*H):uX W H z g 0:=⟨h,fun _ _ _ _ h=>by omega⟩
theorem uX.next{W H:Nat}{z g:List Int}{i:Nat}(hz:z.length=W*H)(hi:i<nT W H)(h:uX W H z g i):uX W H z (aLt W H z g (i%bG W) (i/bG W)) (i+1):=by
 obtain⟨h1,h2⟩:=aIb hi;have hbx:=wO W H (i%bG W:Nat) (i/bG W:Nat);have hsz:=(aRg h1 h2 hz).1;refine⟨aBb h.1 hbx.1 hbx.2.1 hsz _ (Nat.le_refl _),fun x y hx hy e=>?_⟩;unfold aLt rW;refine aLx hz h.1 hbx.1 hbx.2.1 _ (Nat.le_refl _) ?_;rcases Nat.lt_or_ge ((y/16)*bG W+x/16) i with e1|e1
 ·exact .inl (h.2 x y hx hy e1)
 ·have hxc:x/16<bG W:=by unfold bG;omega
  have ee:i=x/16+bG W*(y/16):=by rw[Nat.mul_comm (bG W)];omega
  have e2:i%bG W=x/16:=by rw[ee,Nat.add_mul_mod_self_left,Nat.mod_eq_of_lt hxc]
  have e3:i/bG W=y/16:=by rw[ee,Nat.add_mul_div_left _ _ oo,Nat.div_eq_of_lt hxc,Nat.zero_add]
  refine .inr ⟨y-16*(y/16),?_⟩;rw[e2]at h1;rw[e3]at h2;rw[e2,e3];rw[aCh h1 h2];simp only;have:16*(y/16)+(y-16*(y/16))=y:=oo;rw[this];omega
theorem uX.all{W H:Nat}{z g:List Int}(hz:z.length=W*H)(h:uX W H z g (nT W H)):g=z:=by
 apply List.ext_getElem (by rw[h.1,hz]);intro p h1 h2
 have hW : 0 < W := by rcases Nat.eq_zero_or_pos W with e | e
                       · rw [hz, e, Nat.zero_mul] at h2; omega
                       · exact e
 have hp:p/W*W+p%W=p:=by rw[Nat.mul_comm];exact Nat.div_add_mod p W
 have hm:=Nat.mod_lt p hW;have hy:p/W<H:=Nat.div_lt_of_lt_mul oo;have h3:p%W/16<bG W:=by unfold bG;omega
 have h4:p/W/16<bG H:=by unfold bG;omega
 have h5:(p/W/16+1)*bG W≤bG H*bG W:=Nat.mul_le_mul_right _ h4;have:=h.2 (p%W) (p/W) hm hy (by unfold nT;rw[Nat.add_mul,Nat.one_mul,Nat.mul_comm (bG H)]at h5;omega);rw[hp,List.getD_eq_getElem?_getD,List.getD_eq_getElem?_getD,List.getElem?_eq_getElem h1,List.getElem?_eq_getElem h2]at this;simpa using this
theorem aL1{W x y bw:Nat}{z:List Int}(P:Int→Prop)(h0:P 0)(hz:∀i,P (z.getD i 0)):∀r i,P ((mA z W x y bw r).getD i 0)
 | 0,i=>by simpa [mA] using h0
 | r+1,i=>by
  rw[mA];rcases Nat.lt_or_ge i (mA z W x y bw r).length with h|h
  ·rw[List.getD_eq_getElem?_getD,List.getElem?_append_left h,← List.getD_eq_getElem?_getD];exact aL1 P h0 hz r i
  ·rw[List.getD_eq_getElem?_getD,List.getElem?_append_right h];unfold yZ;rw[List.getElem?_take,List.getElem?_drop];split
   ·rw[← List.getD_eq_getElem?_getD];exact hz _
   ·simpa using h0
theorem aLe{z:List Int}(hz:dK z)(W H i:Nat):dK (kM W H z i):=fun k=>aL1 (fun x=>-32768≤x∧x≤32767) od hz _ k
open Go.RowKit
section
variable {P:Program} {w0:World} {W:Nat→Prop} {H:List HE}
instance (t:TypeId)(x:Operand)(a:Int):MS P w0 W H (.unOp .xor t x) [.int .u32 a] (.int .u32 (bits .xor .u32 4294967295 a)) True:=⟨fun _ _ _ _ _ _ _ _ _ _ _ _ _ _ h1 h2 h3=>dS aE rfl h2 (fun a w ha _=>by simp only[execOp,ha.eval (kW rfl h1),Op.unary,Op.intBits];rfl) h3⟩
instance (k:IntKind)(a:List Int)(v1 v2 v3 v4:Int):zK (aC k a) [.int k v1,.int k v2,.int k v3,.int k v4] (aC k (a++[v1,v2,v3,v4])):=⟨by simp[aC]⟩
end
theorem aL2{ys:List Int}(h:dV ys)(i:Nat):0≤ys.getD i 0∧ys.getD i 0<256:=by
 rcases Nat.lt_or_ge i ys.length with h1|h1
 ·exact h _ (by rw[List.getD_eq_getElem?_getD,List.getElem?_eq_getElem h1];exact List.getElem_mem ..)
 ·rw[List.getD_eq_getElem?_getD,List.getElem?_eq_none h1];simp
theorem bBd{r:Nat}(hr:r<4294967296):bits .xor .u32 ((r:Int)/2^1) (bits .and .u32 3988292384 (IntKind.u32.wrap (0-bits .and .u32 (r:Int) 1)))=(aAx r:Nat):=by
 have h1:bits .and .u32 (r:Int) 1=((r%2:Nat):Int):=by have:=u32_and_nat r 1 hr oo;rw[nat_mask1]at this;exact this
 have h2:(r:Int)/2^1=((r/2:Nat):Int):=oo;rw[h1,h2];unfold aAx;rcases Nat.mod_two_eq_zero_or_one r with h|h
 ·rw[h,if_neg oo];exact u32_xor_nat (r/2) 0 oo oo
 ·rw[h,if_pos rfl];exact u32_xor_nat (r/2) 3988292384 oo oo
attribute [local irreducible] OJ J bO Code.wpIn wpListIn Oper.wpIn bodyPost CallsIn aF
theorem aRh(r:Nat)(hr:r<4294967296)(w:World):aF prog 212 [.int .u32 r] [] w (fun v S'=>v=.int .u32 (aAy 8 r:Nat)∧S'=[]):=by
 refine aJ func212 rfl ntmps212 rfl ⟨aE,.nil⟩ (fun n=>?_);simp only[aG];refine bN;refine bT (X:=Nat) (fun i=>i≤8) (fun i=>[(0,.int .u32 (aAy i r:Nat)),(4,.int .i64 i)]) (fun _=>[]) (fun i=>8-i) 0 aE ⟨rfl,rfl,trivial⟩ (.nil _) ?_;intro i hi;have hk:=aFg hr i;have hs:=bBd hk;refine aB
 ·exact aN (i+1) (by show i+1≤8;omega) (by show 8-(i+1)<8-i;omega) ⟨by rw[hs];rfl,by simp[aH],trivial⟩ (.nil _)
 ·obtain rfl:i=8:=oo;exact aK rfl rfl (.nil _) ⟨rfl,rfl⟩
theorem aP1(A:Option Addr)(c:Nat)(ys:List Int)(w:World)(hr:bF w (aV []) A ys.length c 1 (aC .u8 ys))(hu:dV ys)(hm:ys.length<1000000000):
  aF prog 159 [.slice A ys.length c] [] w (fun v S'=>v=.int .u32 (rH ys:Nat)∧S'=[]):=by
 refine aJ func159 rfl ntmps159 rfl ⟨aE,.nil⟩ (fun n=>?_);simp only[aG];refine bN;refine bT (X:=Nat) (fun i=>i≤ys.length) (fun i=>[(3,.int .u32 (vJ ys 4294967295 i:Nat)),(6,.slice A ys.length c),(7,.int .i64 ys.length),(8,.int .i64 i)]) (fun _=>[]) (fun i=>ys.length-i) 0 aE ⟨rfl,rfl,rfl,rfl,trivial⟩ (.nil _) ?_;intro i hi;have hk:=aFh hu (r:=4294967295) oo i hi;have hy:=aL2 hu i;rcases Nat.lt_or_ge i ys.length with h|h
 ·obtain⟨bA,oA,rfl,hA⟩:=hr.at_ (by omega:0<ys.length);have hx:bits .xor .u32 (vJ ys 4294967295 i:Nat) (ys.getD i 0)=((vJ ys 4294967295 i ^^^ (ys.getD i 0).toNat:Nat):Int):=u32_xor _ _ oo oo oo oo;have hxl:vJ ys 4294967295 i ^^^ (ys.getD i 0).toNat<4294967296:=Nat.xor_lt_two_pow (n:=32) hk oo;refine aB;rw[hx];refine bQ rfl rfl rfl (fun w _=>aRh _ hxl w) ?_;refine aB;exact aN (i+1) (by show i+1≤_;omega) (by show _-(i+1)<_-i;omega) ⟨rfl,rfl,rfl,by simp[aH],trivial⟩ (.nil _)
 ·obtain rfl:i=ys.length:=oo;have hx:bits .xor .u32 4294967295 (vJ ys 4294967295 ys.length:Nat)=((4294967295 ^^^ vJ ys 4294967295 ys.length:Nat):Int):=u32_xor_nat 4294967295 _ oo hk;refine aB;exact aK rfl rfl (.nil _) ⟨by rw[hx];rfl,rfl⟩
theorem bBf(A:Option Addr)(c m:Nat)(ys:List Int)(w:World)(hl:ys.length=m)(hr:bF w (aV []) A m c 1 (aC .u8 ys))(hu:dV ys)(hm:m<1000000000):
  aF prog 159 [.slice A m c] [] w (fun v S'=>v=.int .u32 (rH ys:Nat)∧S'=[]):=by
 subst hl;exact aP1 A c ys w hr hu hm
theorem aJg(x i:Nat):(x:Int)/2^(8*i)%256=((x/256^i%256:Nat):Int):=by rw[aDp];push_cast;rfl
theorem wP(A:Option Addr)(c:Nat)(ys:List Int)(x size:Nat)(w:World)(hr:bF w (aV []) A ys.length c 1 (aC .u8 ys))(hx:x<18446744073709551616)(hs:size≤8)(hm:ys.length<1000000000):
  aF prog 107 [.slice A ys.length c,.int .u64 x,.int .i64 size] [] w (fun v S'=>∃A' c',v=.slice A' (ys++dE x size).length c'∧S'=[.row (.slice A' (ys++dE x size).length c') 5 1 (ys++dE x size).length (aC .u8 (ys++dE x size))]):=by
 refine aJ func107 rfl ntmps107 rfl ⟨aE,.nil⟩ (fun n=>?_);simp only[aG];have hbl:=fD x size;refine bN;rename_i A0 c0;refine bT (X:=Nat×Option Addr×Nat) (fun q=>q.1≤size) (fun q=>[(1,.int .u64 x),(7,.slice q.2.1 (ys++(dE x size).take q.1).length q.2.2),(13,.int .i64 size),(14,.int .i64 q.1)])
  (fun q=>[.row (.slice q.2.1 (ys++(dE x size).take q.1).length q.2.2) 5 1 (ys++(dE x size).take q.1).length (aC .u8 (ys++(dE x size).take q.1))]) (fun q=>size-q.1) (0,A0,c0) aE ⟨rfl,by simp[aH],rfl,rfl,trivial⟩ (by simp only[List.take_zero,List.append_nil];exact aA.au) ?_
 rintro⟨i,A1,c1⟩ hi;simp only at hi ⊢;have htl:(ys++(dE x size).take i).length=ys.length+i:=by rw[List.length_append,List.length_take];omega
 rcases Nat.lt_or_ge i size with h|h
 ·have hat:=aRl x size i h;have e8:(8*(i:Int)).toNat=8*i:=oo;rw[← aJg,← IntKind.wrap_u8',← e8]at hat
  refine aB;rename_i A2 c2;rw[List.append_assoc,← hat];exact aN (i+1,A2,c2) (by show i+1≤_;omega) (by show _-(i+1)<_-i;omega) ⟨rfl,rfl,rfl,by simp[aH],trivial⟩ aA.au
 ·obtain rfl:i=size:=oo;rw[List.take_of_length_le (by omega:(dE x i).length≤i)];refine aB;exact aK rfl rfl aA.au ⟨_,_,rfl,rfl⟩
theorem aXt{x y i:Nat}(hx:x<256^i)(hy:y<256)(hi:i<8):bits .or .u64 (x:Int) (IntKind.u64.wrap ((y:Int)*2^min (8*(i:Int)).toNat IntKind.u64.bits))=((x+256^i*y:Nat):Int):=by
 have e1:min (8*(i:Int)).toNat IntKind.u64.bits=8*i:=by simp only[IntKind.bits];omega
 have e2:(y:Int)*2^(8*i)=((256^i*y:Nat):Int):=by rw[aDp];push_cast;rw[Int.mul_comm]
 have h7:256^i≤256^7:=Nat.pow_le_pow_right oo oo;have h8:256^i*y≤256^i*255:=Nat.mul_le_mul_left _ oo;rw[e1,e2,kZ (by simp only[aP];omega),u64_or_nat _ _ oo oo,Nat.or_comm,nat_join (8*i) _ _ (by rw[aDp,Nat.mul_mod_right]) (by rw[← aDp];exact hx),Nat.add_comm]
theorem aW4{ys:List Int}{a i:Nat}(h:a+i<ys.length):dW ys a (i+1)=dW ys a i+256^i*(ys.getD (a+i) 0).toNat:=by
 unfold dW qH;have e:(ys.drop a).take (i+1)=(ys.drop a).take i++[ys.getD (a+i) 0]:=by rw[List.take_succ_eq_append_getElem (by rw[List.length_drop];omega),List.getElem_drop,List.getD_eq_getElem?_getD,List.getElem?_eq_getElem h];rfl
 rw[e,aMs,List.length_take,List.length_drop,Nat.min_eq_left oo];simp[oZ]
theorem aR8(A:Option Addr)(c:Nat)(ys:List Int)(at_ size:Nat)(w:World)(hr:bF w (aV []) A ys.length c 1 (aC .u8 ys))(hu:dV ys)(hs:size≤8)(ha:at_+size≤ys.length)(hm:ys.length<1000000000):
  aF prog 214 [.slice A ys.length c,.int .i64 at_,.int .i64 size] [] w (fun v S'=>v=.tuple #[.int .u64 (dW ys at_ size:Nat),.int .i64 0]∧S'=[]):=by
 refine aJ func214 rfl ntmps214 rfl ⟨aE,.nil⟩ (fun n=>?_);simp only[aG];refine aB;refine bT (X:=Nat) (fun i=>i≤size) (fun i=>[(0,.slice A ys.length c),(1,.int .i64 at_),(8,.int .u64 (dW ys at_ i:Nat)),(34,.int .i64 size),(35,.int .i64 i)]) (fun _=>[]) (fun i=>size-i) 0 aE ⟨rfl,rfl,by simp[aH,dW,qH,oZ],rfl,rfl,trivial⟩ (.nil _) ?_;intro i hi;rcases Nat.lt_or_ge i size with h|h
 ·obtain⟨bA,oA,rfl,hA⟩:=hr.at_ (by omega:0<ys.length);have hlt:=sY hu (a:=at_) (n:=i) oo;have hy:=aL2 hu ((at_:Int)+i).toNat
  have ee:((at_:Int)+i).toNat=at_+i:=oo;have hor:=aXt hlt (y:=(ys.getD (at_+i) 0).toNat) (i:=i) (by rw[← ee];omega) oo;rw[Int.toNat_of_nonneg (by rw[← ee];omega),← aW4 oo,← ee]at hor;refine aB;exact aN (i+1) (by show i+1≤_;omega) (by show _-(i+1)<_-i;omega) ⟨rfl,rfl,by simp only[aH];first|(rw[hor];rfl)|(simp;exact hor),rfl,by simp[aH],trivial⟩ (.nil _)
 ·obtain rfl:i=size:=oo;refine aB;exact cM rfl rfl rfl (.nil _) ⟨rfl,rfl⟩
theorem aKc(A:Option Addr)(c:Nat)(ys:List Int)(w:World)(hr:bF w (aV []) A ys.length c 1 (aC .u8 ys))(hu:dV ys)(hm:ys.length<1000000000):
  aF prog 106 [.slice A ys.length c] [] w (fun v S'=>∃A' c',v=.slice A' (lD ys).length c'∧S'=[.row (.slice A' (lD ys).length c') 5 1 (lD ys).length (aC .u8 (lD ys))]):=by
 have hsl:=aP0 hu;have hb:ys++[IntKind.u8.wrap (rH ys:Nat),IntKind.u8.wrap ((rH ys:Nat)/2^8),IntKind.u8.wrap ((rH ys:Nat)/2^16),((rH ys:Nat):Int)/2^24]=lD ys:=by unfold lD;congr 1;simp only[dE,List.range_succ,List.range_zero,List.nil_append,List.cons_append,List.map_cons,List.map_nil,IntKind.wrap_u8'];simp only[List.cons.injEq,and_true];omega
 refine aJ func106 rfl ntmps106 rfl ⟨aE,.nil⟩ (fun n=>?_);simp only[aG];refine bN;refine bQ rfl rfl rfl (fun w hw=>aP1 A c ys w ⟨hr.h.go hw (aD.nil _)⟩ hu hm) ?_;refine bN;rw[hb];exact aK rfl rfl (.cons (.there _ (.here _ _)) (.nil _)) ⟨_,_,rfl,rfl⟩
theorem aT8{ys:List Int}{m:Nat}(hl:ys.length=m+4):qQ ys↔∀i,i<4→ys.getD (m+i) 0=((rH (ys.take m)/256^i%256:Nat):Int):=by
 unfold qQ;rw[show ys.length-4=m by omega];constructor
 ·rintro⟨-,h⟩ i hi;rw[← aJi _ 4 i hi,← h];simp[List.getD_eq_getElem?_getD]
 ·intro h;refine⟨oo,List.ext_getElem (by rw[List.length_drop,fD];omega) fun i h1 h2=>?_⟩;have hi:i<4:=by rw[fD]at h2;exact h2
  have:=h i hi;rw[← aJi _ 4 i hi,List.getD_eq_getElem?_getD,List.getD_eq_getElem?_getD,List.getElem?_eq_getElem oo,List.getElem?_eq_getElem h2]at this;rw[List.getElem_drop];simpa using this
theorem aKb(A:Option Addr)(c n:Nat)(ys:List Int)(w:World)(hl:ys.length=n)(hr:bF w (aV []) A n c 1 (aC .u8 ys))(hu:dV ys)(hm:n<1000000000):
  aF prog 163 [.slice A n c] [] w (fun v S'=>(qQ ys∧∃A' c',v=.tuple #[.slice A' (ys.take (n-4)).length c',.bool true]∧S'=[.row (.slice A' (ys.take (n-4)).length c') 5 1 (ys.take (n-4)).length (aC .u8 (ys.take (n-4)))])∨(¬qQ ys∧v=.tuple #[.slice none 0 0,.bool false]∧S'=[])):=by
 subst hl;refine aJ func163 rfl ntmps163 rfl ⟨aE,.nil⟩ (fun n=>?_);simp only[aG];rcases Nat.lt_or_ge ys.length 4 with h|h
 ·refine jG;exact cM rfl rfl rfl (.nil _) (.inr ⟨fun e=>by have:=e.1;omega,rfl,rfl⟩)
 have hcl:ys.length≤c:=by obtain⟨_,_,e,q1,-⟩:=hr.h;injection e with _ _ e;omega
 obtain⟨m,hm2⟩:∃m,ys.length=m+4:=⟨ys.length-4,oo⟩;have hcg:=aT8 hm2;have hmm:(ys.length:Int)-4=(m:Nat):=oo;have hm4:ys.length-4=m:=oo;have htl:(ys.take m).length=m:=by rw[List.length_take];omega
 have hsl:=aP0 (ys:=ys.take m) (fun x hx=>hu x (List.mem_of_mem_take hx));rw[hm4];refine aB;refine eX 13 _ rfl (v':=.int .i64 (m:Nat)) (by rw[hmm]) ?_;refine eX 4 _ rfl (v':=.int .i64 (m:Nat)) (by rw[hmm]) ?_;refine aBa 0 m hr oo fun hr0=>?_;rw[List.drop_zero,Nat.sub_zero]at hr0;refine aB;refine bQ rfl rfl rfl (fun w hw=>bBf _ _ m (ys.take m) w htl ⟨hr0.h.go hw (aD.nil _)⟩ (fun x hx=>hu x (List.mem_of_mem_take hx)) oo) ?_;refine aB;refine bT (X:=Nat) (fun i=>i≤4∧∀j,j<i→ys.getD (m+j) 0=((rH (ys.take m)/256^j%256:Nat):Int)) (fun i=>[(0,.slice A ys.length c),(4,.int .i64 m),(5,.int .u32 (rH (ys.take m):Nat)),(16,.int .i64 i)]) (fun _=>[]) (fun i=>4-i) 0 ⟨aE,fun j hj=>by omega⟩ ⟨rfl,rfl,rfl,rfl,trivial⟩ (.nil _) ?_;rintro i ⟨hi,hjs⟩;obtain⟨bA,oA,rfl,hA⟩:=hr.at_ (by omega:0<ys.length);have e8:(8*(i:Int)).toNat=8*i:=oo;have em:((m:Int)+i).toNat=m+i:=oo;have hby:=aJg (rH (ys.take m)) i;rw[← IntKind.wrap_u8',← e8]at hby;have hji:=hjs;refine aB
 ·rename_i hne;rw[em,hby]at hne;exact cM rfl rfl rfl (.nil _) (.inr ⟨fun e=>hne (hcg.1 e i oo),rfl,rfl⟩)
 ·rename_i hne;rw[em,hby]at hne;refine aN (i+1) ⟨oo,fun j hj=>?_⟩ (by show 4-(i+1)<4-i;omega) ⟨rfl,rfl,rfl,by simp[aH],trivial⟩ (.nil _);rcases Nat.lt_or_ge j i with h1|h1
  ·exact hjs j h1
  ·obtain rfl:j=i:=oo;exact Decidable.of_not_not hne
 ·exact cM rfl rfl rfl aA.au (.inl ⟨hcg.2 fun j hj=>hjs j oo,_,_,rfl,rfl⟩)
theorem wT(A:Option Addr)(c:Nat)(ys:List Int)(at_ size:Nat)(w:World)(hr:bF w (aV []) A ys.length c 1 (aC .u8 ys))(hu:dV ys)(hs:size≤4)(ha:at_+size≤ys.length)(hm:ys.length<1000000000):
  aF prog 162 [.slice A ys.length c,.int .i64 at_,.int .i64 size] [] w (fun v S'=>v=.int .i64 (dW ys at_ size:Nat)∧S'=[]):=by
 have hlt:=sY hu ha;have h4:256^size≤256^4:=Nat.pow_le_pow_right oo hs;refine aJ func162 rfl ntmps162 rfl ⟨aE,.nil⟩ (fun n=>?_);simp only[aG];refine bN;refine bQ rfl rfl rfl (fun w hw=>aR8 A c ys at_ size w ⟨hr.h.go hw (aD.nil _)⟩ hu oo ha hm) ?_;refine aB;exact aK rfl rfl (.nil _) ⟨rfl,rfl⟩
def jB(W k:Nat):List (Int×Int):=(List.range k).map fun i=>(tX W i,tY W i)
theorem aA4(W k:Nat):(jB W k).length=k:=by simp[jB]
theorem aYn(W k:Nat):jB W (k+1)=jB W k++[(tX W k,tY W k)]:=by simp[jB,List.range_succ]
theorem aDn(W k i:Nat)(h:i<k):(jB W k).getD i default=(tX W i,tY W i):=by simp[jB,List.getD_eq_getElem?_getD,h]
theorem tXY{W x y:Nat}(h:x<bG W):tX W (y*bG W+x)=x∧tY W (y*bG W+x)=y:=by unfold tX tY;rw[Nat.add_comm,Nat.mul_comm,Nat.add_mul_mod_self_left,Nat.mod_eq_of_lt h,Nat.add_mul_div_left _ _ oo,Nat.div_eq_of_lt h,Nat.zero_add];exact⟨rfl,rfl⟩
def aCp(W H:Int)(z:List Int)(cell:Int):Int:=if wS W H z≠0 then wS W H z else if cell<1∨1000<cell then 1 else 0
instance (priority:=2000) (P:Program)(s t:TypeId)(x:Operand)(a:Int)(dd:TypeDesc)[hs:aO P s dd][ht:aO P t (.int .u32)]:PV P (.convert s t x) [.int .i32 a] (.int .u32 (rJ a:Nat)) True:=⟨by
 rintro hc ρ ⟨dst,op',ty,pos,aft,gd⟩ rfl h w;have e:IntKind.u32.wrap a=(rJ a:Nat):=by unfold rJ;rw[IntKind.wrap_u32'];omega
 simp[execOp,qY h,convert,run_underlying hs.h,run_underlying ht.h,Conv.intToInt,e]⟩
theorem aSu(W H:Int)(A:Option Addr)(c:Nat)(z:List Int)(cell ox oy:Int)(w:World):
  aF prog 99 [.agg #[.int .i64 W,.int .i64 H,.slice A z.length c,.int .i64 cell,.int .i32 ox,.int .i32 oy]] [] w (fun v S'=>v=.int .i64 (aCp W H z cell)∧S'=[]):=by
 refine aJ func99 rfl ntmps99 rfl ⟨aE,.nil⟩ (fun n=>?_);simp only[aG];unfold aCp;refine aB;refine bQ rfl rfl rfl (fun w _=>aJy W H A c z w) ?_;refine aB
 ·exact aK rfl rfl (.nil _) ⟨by rw[if_pos oa],rfl⟩
 ·exact aK rfl rfl (.nil _) ⟨by rw[if_neg oa,if_pos oo],rfl⟩
 ·exact aK rfl rfl (.nil _) ⟨by rw[if_neg oa,if_pos oo],rfl⟩
 ·exact aK rfl rfl (.nil _) ⟨by rw[if_neg oa,if_neg oo],rfl⟩
theorem aBn(W H:Nat)(w:World)(hm:W≤256∧H≤256):
  aF prog 102 [.int .i64 W,.int .i64 H] [] w (fun v S'=>∃A' c',v=.slice A' (jB W (nT W H)).length c'∧S'=[.row (.slice A' (jB W (nT W H)).length c') 209 2 (jB W (nT W H)).length (aR zD (jB W (nT W H)))]):=by
 refine aJ func102 rfl ntmps102 rfl ⟨aE,.nil⟩ (fun n=>?_);simp only[aG];have hcW:=wW hm.1;have hcH:=wW hm.2;refine dD (e:=209) (size:=2) ?_;refine aB;refine bQ rfl rfl rfl (fun w _=>yK H w oo) ?_;refine aB;refine bT (X:=Nat×Option Addr×Nat) (fun q=>q.1≤bG H) (fun q=>[(0,.int .i64 W),(5,.slice q.2.1 (jB W (q.1*bG W)).length q.2.2),(9,.int .i64 (bG H:Nat)),(10,.int .i64 q.1)])
  (fun q=>[.row (.slice q.2.1 (jB W (q.1*bG W)).length q.2.2) 209 2 (jB W (q.1*bG W)).length (aR zD (jB W (q.1*bG W)))]) (fun q=>bG H-q.1) (0,none,0) aE ⟨rfl,by simp[aH,jB],rfl,rfl,trivial⟩ (by simp only[Nat.zero_mul];exact aA.refl _) ?_
 rintro⟨y,A1,c1⟩ hy;simp only at hy ⊢;rcases Nat.lt_or_ge y (bG H) with h|h
 ·refine jG;refine bQ rfl rfl rfl (fun w _=>yK W w oo) ?_;refine aB;have hyW:(y+1)*bG W≤16*16:=Nat.mul_le_mul oo hcW;rw[Nat.add_mul,Nat.one_mul]at hyW;refine bT (X:=Nat×Option Addr×Nat) (fun q=>q.1≤bG W) (fun q=>[(0,.int .i64 W),(5,.slice q.2.1 (jB W (y*bG W+q.1)).length q.2.2),(6,.int .i64 y),(9,.int .i64 (bG H:Nat)),(10,.int .i64 y),(14,.int .i64 (bG W:Nat)),(15,.int .i64 q.1)])
   (fun q=>[.row (.slice q.2.1 (jB W (y*bG W+q.1)).length q.2.2) 209 2 (jB W (y*bG W+q.1)).length (aR zD (jB W (y*bG W+q.1)))]) (fun q=>bG W-q.1) (0,A1,c1) aE ⟨rfl,rfl,rfl,rfl,rfl,rfl,rfl,trivial⟩ (aA.refl _) ?_
  rintro⟨x,A2,c2⟩ hx;simp only at hx ⊢;have hpl:=aA4 W (y*bG W+x);rcases Nat.lt_or_ge x (bG W) with h2|h2
  ·have hps:=aYn W (y*bG W+x);rw[(tXY h2).1,(tXY h2).2]at hps;refine aB;rename_i A3 c3;rw[← hps];exact aN (x+1,A3,c3) (by show x+1≤_;omega) (by show _-(x+1)<_-x;omega) ⟨rfl,rfl,rfl,rfl,rfl,rfl,by simp[aH],trivial⟩ aA.au
  ·obtain rfl:x=bG W:=oo;refine aB;exact aN (y+1,A2,c2) (by show y+1≤_;omega) (by show _-(y+1)<_-y;omega) ⟨rfl,by simp only[Nat.add_mul,Nat.one_mul];rfl,rfl,by simp[aH],trivial⟩ (by simp only[Nat.add_mul,Nat.one_mul];exact aA.au)
 ·obtain rfl:y=bG H:=oo;refine aB;have e:nT W H=bG H*bG W:=Nat.mul_comm _ _;rw[e];exact aK rfl rfl (aA.refl _) ⟨_,_,rfl,rfl⟩
theorem aLb(W H:Nat)(w:World)(hm:W≤256∧H≤256):
  aF prog 101 [.int .i64 W,.int .i64 H] [] w (fun v S'=>v=.int .i64 (gM W H:Nat)∧S'=[]):=by
 refine aJ func101 rfl ntmps101 rfl ⟨aE,.nil⟩ (fun n=>?_);simp only[aG];have hn:=xH hm;have hcW:=wW hm.1;have hcH:=wW hm.2;have e:(6*(bG W:Int))*(bG H:Int)=((6*nT W H:Nat):Int):=by unfold nT;push_cast;rw[Int.mul_assoc]
 refine aB;refine bQ rfl rfl rfl (fun w _=>yK W w oo) ?_;refine aB;refine bQ rfl rfl rfl (fun w _=>yK H w oo) ?_;refine aB;refine aK rfl rfl (.nil _) ⟨?_,rfl⟩;rw[e];unfold gM;congr 1;omega
theorem aV1(W H cell:Nat)(A:Option Addr)(c m:Nat)(ox oy:Int)(w:World)(hm:W≤256∧H≤256∧cell≤1000)(hox:aP .i32 ox)(hoy:aP .i32 oy):
  aF prog 100 [.agg #[.int .i64 W,.int .i64 H,.slice A m c,.int .i64 cell,.int .i32 ox,.int .i32 oy]] [] w (fun v S'=>∃A' c',v=.slice A' (uG W H cell ox oy).length c'∧S'=[.row (.slice A' (uG W H cell ox oy).length c') 5 1 (uG W H cell ox oy).length (aC .u8 (uG W H cell ox oy))]):=by
 refine aJ func100 rfl ntmps100 rfl ⟨aE,.nil⟩ (fun n=>?_);simp only[aG];refine aB;refine lf rfl rfl rfl (S:=[]) (fun w hw ho=>wP none 0 [] 1296978516 4 w ⟨Ro.nil _ _ _⟩ od od od) ?_;rintro v S' ⟨A1,c1,rfl,rfl⟩;refine aB;refine dL _ [false,true,true,true,true,false,true,true,true,true,false,false] [0,5,10,11] (aA.refl _) rfl od bD ?_;refine jG;refine lf rfl rfl rfl (S:=[]) (fun w hw ho=>wP A1 c1 (dE 1296978516 4) W 2 w ⟨Ro.row hw (aD.nil _) (by refine bV)⟩ oo od (by rw[fD];decide)) ?_;rintro v S' ⟨A2,c2,rfl,rfl⟩;have hl2:=fD W 2;have hl3:=fD H 2;have hl4:=fD 1296978516 4;refine jG;refine lf rfl rfl rfl (S:=[]) (fun w hw ho=>wP A2 c2 (dE 1296978516 4++dE W 2) H 2 w ⟨Ro.row hw (aD.nil _) (by refine bV)⟩ oo od (by rw[List.length_append];omega)) ?_;rintro v S' ⟨A3,c3,rfl,rfl⟩;refine jG;refine lf rfl rfl rfl (S:=[]) (fun w hw ho=>wP A3 c3 (dE 1296978516 4++dE W 2++dE H 2) cell 2 w ⟨Ro.row hw (aD.nil _) (by refine bV)⟩ oo od (by simp only[List.length_append];omega)) ?_;rintro v S' ⟨A4,c4,rfl,rfl⟩;have hl5:=fD cell 2;have hl6:=fD (rJ ox) 4;refine aB;have hu1:=aAd ox;have hu2:=aAd oy;refine dL _ [false,true,true,true,true,false,true,true,true,true,false,false] [0,5,10,11] (aA.refl _) rfl od bD ?_;refine jG;refine lf rfl rfl rfl (S:=[]) (fun w hw ho=>wP A4 c4 (dE 1296978516 4++dE W 2++dE H 2++dE cell 2) (rJ ox) 4 w ⟨Ro.row hw (aD.nil _) (by refine bV)⟩ (by have:=aAd ox;omega) od (by simp only[List.length_append];omega)) ?_;rintro v S' ⟨A5,c5,rfl,rfl⟩;refine jG;refine lf rfl rfl rfl (S:=[]) (fun w hw ho=>wP A5 c5 (dE 1296978516 4++dE W 2++dE H 2++dE cell 2++dE (rJ ox) 4) (rJ oy) 4 w ⟨Ro.row hw (aD.nil _) (by refine bV)⟩ (by have:=aAd oy;omega) od (by simp only[List.length_append];omega)) ?_;rintro v S' ⟨A6,c6,rfl,rfl⟩;refine jG;exact aK rfl rfl (.cons (.here _ _) (.nil _)) ⟨_,_,rfl,rfl⟩
theorem aEa{W H i:Nat}(hm:W≤256∧H≤256)(hi:i<nT W H):aP .i64 (tX W i)∧aP .i64 (tY W i):=by obtain⟨h1,h2⟩:=aIb hi;have:=wW hm.1;have:=wW hm.2;unfold tX tY;generalize i%bG W=x at *;generalize i/bG W=y at *;simp only[aP];omega
theorem aSt{W H cell:Nat}{z:List Int}(hW:2≤W∧W≤256∧2≤H∧H≤256∧1≤cell∧cell≤1000)(hz:z.length=W*H):aCp W H z cell=0:=by
 have h:wS W H z=0:=by unfold wS;rw[if_neg oo,if_pos (by rw[hz];push_cast;rfl)]
 unfold aCp;rw[h,if_neg aE,if_neg oo]
theorem bC3{W H i:Nat}{z:List Int}(hi:i<nT W H)(hz:z.length=W*H):vY (eM W H i:Nat) (pH W H i:Nat) (kM W H z i)=some (rF (eM W H i) (kM W H z i))∧aA5 (eM W H i:Nat) (pH W H i:Nat) (kM W H z i)=0:=by have hb:=aBv hi;have h:=aYv (a:=(eM W H i:Nat)) (b:=(pH W H i:Nat)) (z:=kM W H z i) ⟨(aHr _ _).2 oo,by rw[aCw hz];push_cast;rfl⟩;rw[Int.toNat_natCast]at h;exact h
theorem bC4(A:Option Addr)(c W H:Nat)(z:List Int)(i:Nat)(w:World)(hr:bF w (aV []) A (rF (eM W H i) (kM W H z i)).length c 1 (aC .u8 (rF (eM W H i) (kM W H z i))))(hm:(rF (eM W H i) (kM W H z i)).length<1000000000):
  aF prog 106 [.slice A (rF (eM W H i) (kM W H z i)).length c] [] w (fun v S'=>∃A' c',v=.slice A' (qK W H z i).length c'∧S'=[.row (.slice A' (qK W H z i).length c') 5 1 (qK W H z i).length (aC .u8 (qK W H z i))]):=aKc A c _ w hr (aNt _ _) hm
theorem aK7(W H cell:Nat)(A:Option Addr)(c:Nat)(z:List Int)(ox oy:Int)(w:World)(hr:bF w (aV []) A z.length c 1 (aC .i16 z))(hW:2≤W∧W≤256∧2≤H∧H≤256∧1≤cell∧cell≤1000)(hz:z.length=W*H)(hin:dK z)(hox:aP .i32 ox)(hoy:aP .i32 oy):
  aF prog 52 [.agg #[.int .i64 W,.int .i64 H,.slice A z.length c,.int .i64 cell,.int .i32 ox,.int .i32 oy]] [] w (fun v S'=>∃A' c',v=.tuple #[.slice A' (fR W H cell ox oy z).length c',.int .i64 0]∧S'=[.row (.slice A' (fR W H cell ox oy z).length c') 5 1 (fR W H cell ox oy z).length (aC .u8 (fR W H cell ox oy z))]):=by
 have hchk:=aSt hW hz;have hn:=xH (W:=W) (H:=H) oo;have hhn:gM W H≤2000:=by unfold gM;omega
 have hpl:=aA4 W (nT W H);refine aJ func52 rfl ntmps52 rfl ⟨aE,.nil⟩ (fun n=>?_);simp only[aG];refine aB;refine bQ rfl rfl rfl (fun w _=>aSu W H A c z cell ox oy w) ?_;rw[hchk];refine aB;rename_i b1;refine lf rfl rfl rfl (S:=[]) (fun w hw ho=>aV1 W H cell A c z.length ox oy w oo hox hoy) ?_;rintro v S' ⟨Ah,ch,rfl,rfl⟩;refine aB;refine bQ rfl rfl rfl (fun w _=>aLb W H w oo) ?_;refine aB;refine lf rfl rfl rfl (S:=[]) (fun w hw ho=>aBn W H w oo) ?_;rintro v S' ⟨Ap,cp,rfl,rfl⟩;refine dD (e:=5) (size:=1) ?_;refine aB;refine bT (X:=Nat×(Option Addr×Nat)×(Option Addr×Nat)) (fun q=>q.1≤nT W H)
  (fun q=>[(1,.pointer (some ⟨b1,0,none⟩)),(5,.slice q.2.1.1 (mC W H cell ox oy z q.1).length q.2.1.2),(6,.slice q.2.2.1 (kB W H z q.1).length q.2.2.2),(7,.int .i64 (gM W H:Nat)),(36,.slice Ap (jB W (nT W H)).length cp),(37,.int .i64 (jB W (nT W H)).length),(38,.int .i64 q.1)])
  (fun q=>[.row (.slice q.2.1.1 (mC W H cell ox oy z q.1).length q.2.1.2) 5 1 (mC W H cell ox oy z q.1).length (aC .u8 (mC W H cell ox oy z q.1)),.row (.slice q.2.2.1 (kB W H z q.1).length q.2.2.2) 5 1 (kB W H z q.1).length (aC .u8 (kB W H z q.1)),
   .row (.slice Ap (jB W (nT W H)).length cp) 209 2 (jB W (nT W H)).length (aR zD (jB W (nT W H))),.blk b1 30 [.int .i64 W,.int .i64 H,.slice A z.length c,.int .i64 cell,.int .i32 ox,.int .i32 oy]]) (fun q=>nT W H-q.1) (0,(Ah,ch),(none,0)) aE ⟨rfl,rfl,rfl,rfl,rfl,rfl,rfl,trivial⟩ ?_ ?_
 ·exact(aA.cons (.there _ (.there _ (.here _ _))) (aA.cons (.here _ _) (aA.cons (.here _ _) (aA.cons (.here _ _) (aA.nil _)))))
 rintro⟨i,⟨Ah,ch⟩,⟨Ab,cb⟩⟩ hi;simp only at hi ⊢;have hdl:=aCx W H cell ox oy z i;have hbl:=aCg hz i;rcases Nat.lt_or_ge i (nT W H) with h|h
 ·have hpg:=aDn W _ i h;have htl:=aIa (i:=i) hz;obtain⟨hX,hY⟩:=aEa oo h;obtain⟨hp1,hp2⟩:=bC3 h hz;have hcl:=aCv (i:=i) hz;have hci:=aLe hin W H i;have hrl:=aNs (eM W H i) _ hcl;have hdu:=aCy W H cell ox oy z i;refine aB;simp only[hpg];refine bQ rfl rfl rfl (fun w _=>aAr W H (tX W i) (tY W i) w hX hY oo) ?_;refine aB;refine lf rfl rfl rfl (S:=[]) (fun w hw ho=>aTa W H A c z (tX W i) (tY W i) w ⟨hr.h.go hw (aD.nil _)⟩ hX hY oo hz) ?_;rintro v S' ⟨A2,c2,rfl,rfl⟩;refine aB;refine lf rfl rfl rfl (S:=[]) (fun w hw ho=>aYu A2 c2 (kM W H z i) (eM W H i:Nat) (pH W H i:Nat) w ⟨Ro.row hw (aD.nil _) (by refine bV)⟩ hci oo) ?_;rintro v S' ⟨A3,c3,rfl,rfl⟩;rw[hp1,hp2,Option.getD_some];refine aB;refine lf rfl rfl rfl (S:=[]) (fun w hw ho=>bC4 A3 c3 W H z i w ⟨Ro.row hw (aD.nil _) (by refine bV)⟩ oo) ?_;rintro v S' ⟨A4,c4,rfl,rfl⟩;generalize htb:qK W H z i=tb at *;refine aB;refine eX 75 _ rfl (v':=.int .u64 (gM W H+(kB W H z i).length:Nat)) (by push_cast;rfl) ?_;refine lf rfl rfl rfl (S:=[]) (fun w hw ho=>wP Ah ch (mC W H cell ox oy z i) (gM W H+(kB W H z i).length) 4 w ⟨Ro.row hw (aD.nil _) (by refine bV)⟩ (by unfold gM;omega) oo oo) ?_;rintro v S' ⟨A5,c5,rfl,rfl⟩;have hl5:=fD (gM W H+(kB W H z i).length) 4;refine aB;refine lf rfl rfl rfl (S:=[]) (fun w hw ho=>wP A5 c5 (mC W H cell ox oy z i++dE (gM W H+(kB W H z i).length) 4) tb.length 2 w ⟨Ro.row hw (aD.nil _) (by refine bV)⟩ oo oo (by rw[List.length_append];omega)) ?_;rintro v S' ⟨A6,c6,rfl,rfl⟩;refine aB;rename_i A7 c7;subst htb;exact aN (i+1,(A6,c6),(A7,c7)) (by show i+1≤_;omega) (by show _-(i+1)<_-i;omega) ⟨rfl,rfl,rfl,rfl,rfl,rfl,by simp[aH],trivial⟩ (by simp only[mC,kB];exact aA.au)
 ·obtain rfl:i=nT W H:=oo;have hdu:=aCy W H cell ox oy z (nT W H);have hcl:=zU (mC W H cell ox oy z (nT W H));refine aB;refine lf rfl rfl rfl (S:=[]) (fun w hw ho=>aKc Ah ch (mC W H cell ox oy z (nT W H)) w ⟨Ro.row hw (aD.nil _) (by refine bV)⟩ hdu oo) ?_;rintro v S' ⟨A4,c4,rfl,rfl⟩;refine aB;exact cM rfl rfl rfl (.cons (.here _ _) (.nil _)) ⟨_,_,rfl,rfl⟩
def kN(x:Nat):Int:=IntKind.i32.wrap (x:Int)
def dZ(ys:List Int)(k:Nat):List Int:=(List.range k).map fun i=>((fP ys i:Nat):Int)
def eJ(ys:List Int)(k:Nat):List Int:=(List.range k).map fun i=>((lN ys i:Nat):Int)
theorem aF2(ys:List Int)(k:Nat):(dZ ys k).length=k:=by simp[dZ]
theorem aI6(ys:List Int)(k:Nat):(eJ ys k).length=k:=by simp[eJ]
theorem aQt(ys:List Int)(k:Nat):dZ ys (k+1)=dZ ys k++[((fP ys k:Nat):Int)]:=by simp[dZ,List.range_succ]
theorem bBl(ys:List Int)(k:Nat):eJ ys (k+1)=eJ ys k++[((lN ys k:Nat):Int)]:=by simp[eJ,List.range_succ]
theorem aQs(ys:List Int)(k i:Nat)(h:i<k):(dZ ys k).getD i 0=((fP ys i:Nat):Int):=by simp[dZ,List.getD_eq_getElem?_getD,h]
theorem bBk(ys:List Int)(k i:Nat)(h:i<k):(eJ ys k).getD i 0=((lN ys i:Nat):Int):=by simp[eJ,List.getD_eq_getElem?_getD,h]
def aQb(ys:List Int)(v:Value)(S':List HE):Prop :=
 (mG ys=0∧∃A1 c1 A2 c2,v=.tuple #[.agg #[.int .i64 (wY ys:Nat),.int .i64 (hY ys:Nat),.slice none 0 0,.int .i64 (nW ys:Nat),.int .i32 (kN (dW ys 10 4)),.int .i32 (kN (dW ys 14 4)),.slice A1 (dZ ys (nY ys)).length c1,.slice A2 (eJ ys (nY ys)).length c2],.int .i64 0] ∧
  S'=[.row (.slice A1 (dZ ys (nY ys)).length c1) 3 1 (dZ ys (nY ys)).length (aC .i64 (dZ ys (nY ys))),.row (.slice A2 (eJ ys (nY ys)).length c2) 3 1 (eJ ys (nY ys)).length (aC .i64 (eJ ys (nY ys)))]) ∨
 (mG ys≠0∧v=.tuple #[.agg #[.int .i64 0,.int .i64 0,.slice none 0 0,.int .i64 0,.int .i32 0,.int .i32 0,.slice none 0 0,.slice none 0 0],.int .i64 (mG ys)]∧S'=[])
theorem aN0(A:Option Addr)(c:Nat)(ys:List Int)(w:World)(hr:bF w (aV []) A ys.length c 1 (aC .u8 ys))(hu:dV ys)(hm:ys.length<100000000):
  aF prog 109 [.slice A ys.length c] [] w (aQb ys):=by
 refine aJ func109 rfl ntmps109 rfl ⟨aE,.nil⟩ (fun n=>?_);simp only[aG];have hcl:ys.length≤c:=by obtain⟨_,_,e,q1,-⟩:=hr.h;injection e with _ _ e;omega
 rcases Nat.lt_or_ge ys.length 18 with h18|h18
 ·have hoc:mG ys=5:=if_pos h18;refine aB;refine bI;exact .inr ⟨oo,by rw[hoc];rfl,rfl⟩
 have hl0:=sY hu (a:=0) (n:=4) oo;have hl4:=sY hu (a:=4) (n:=2) oo;have hl6:=sY hu (a:=6) (n:=2) oo;have hl8:=sY hu (a:=8) (n:=2) oo;have hl10:=sY hu (a:=10) (n:=4) oo;have hl14:=sY hu (a:=14) (n:=4) oo;refine aB;refine bQ rfl rfl rfl (fun w hw=>wT A c ys 0 4 w ⟨hr.h.go hw (aD.nil _)⟩ hu oo oo oo) ?_;by_cases hmg:dW ys 0 4=1296978516
 rotate_left
 ·have hoc:mG ys=3:=by unfold mG;rw[if_neg oo,if_pos hmg]
  refine aB;refine bI;exact .inr ⟨oo,by rw[hoc];rfl,rfl⟩
 rw[hmg];refine aB;refine bQ rfl rfl rfl (fun w hw=>wT A c ys 4 2 w ⟨hr.h.go hw (aD.nil _)⟩ hu oo oo oo) ?_;refine aB;refine bQ rfl rfl rfl (fun w hw=>wT A c ys 6 2 w ⟨hr.h.go hw (aD.nil _)⟩ hu oo oo oo) ?_;refine aB;refine bQ rfl rfl rfl (fun w hw=>wT A c ys 8 2 w ⟨hr.h.go hw (aD.nil _)⟩ hu oo oo oo) ?_;refine aB;refine bQ rfl rfl rfl (fun w hw=>wT A c ys 10 4 w ⟨hr.h.go hw (aD.nil _)⟩ hu oo oo oo) ?_;refine aB;refine bQ rfl rfl rfl (fun w hw=>wT A c ys 14 4 w ⟨hr.h.go hw (aD.nil _)⟩ hu oo oo oo) ?_;have ew:dW ys 4 2=wY ys:=rfl;have eh:dW ys 6 2=hY ys:=rfl;have ec:dW ys 8 2=nW ys:=rfl;rw[ew]at hl4;rw[eh]at hl6;rw[ec]at hl8;rw[ew,eh,ec];generalize hox:dW ys 10 4=ox at *;generalize hoy:dW ys 14 4=oy at *;by_cases hrg:rE ys
 rotate_left
 ·have hoc:mG ys=2:=by unfold mG;rw[if_neg oo,if_neg oo,if_pos hrg]
  unfold rE at hrg;generalize wY ys=W at *;generalize hY ys=H at *;generalize nW ys=cell at *;refine aB;all_goals first
   | (refine bI;exact .inr ⟨oo,by rw[hoc];rfl,rfl⟩)
   | (exfalso;omega)
 have hrg0:=hrg;unfold rE at hrg;have hn:nY ys≤256:=xH oo;have hhn:gM (wY ys) (hY ys)=22+6*nY ys:=rfl;have hatd:∀i,fP ys i=match i with|0=>gM (wY ys) (hY ys)|i+1=>fP ys i+lN ys i:=fun i=>by cases i<;>rfl
 have hocd:mG ys=if ys.length<gM (wY ys) (hY ys)then 5 else if ¬qQ (ys.take (gM (wY ys) (hY ys)))then 4 else if ¬(∀i,i<nY ys→vO ys i=fP ys i)then 2 else if fP ys (nY ys)≠ys.length then 5 else 0:=by
  conv=>lhs;unfold mG
  rw[if_neg oo,if_neg oo,if_neg (fun e=>e hrg0)]
 have e1:IntKind.i32.wrap (ox:Int)=kN ox:=rfl;have e2:IntKind.i32.wrap (oy:Int)=kN oy:=rfl;generalize hn0:gM (wY ys) (hY ys)=hd at *;refine aB;rw[e1,e2];refine bQ rfl rfl rfl (fun w _=>aLb (wY ys) (hY ys) w oo) ?_;rw[hn0];rcases Nat.lt_or_ge ys.length hd with hlt|hge
 ·have hoc:mG ys=5:=by rw[hocd,if_pos hlt]
  refine aB;refine bI;exact .inr ⟨oo,by rw[hoc];rfl,rfl⟩
 rw[if_neg oo]at hocd;have htl:(ys.take hd).length=hd:=by rw[List.length_take];omega
 have htu:dV (ys.take hd):=fun x hx=>hu x (List.mem_of_mem_take hx);refine aBa 0 hd hr oo fun hr0=>?_;rw[List.drop_zero,Nat.sub_zero]at hr0;refine aB;refine lf rfl rfl rfl (S:=[]) (fun w hw ho=>aKb _ _ hd (ys.take hd) w htl ⟨hr0.h.go hw (aD.nil _)⟩ htu oo) ?_;rintro v S' hcg;rcases hcg with⟨hok,Ag,cg,rfl,rfl⟩ | ⟨hno,rfl,rfl⟩
 rotate_left
 ·have hoc:mG ys=4:=by rw[hocd,if_pos hno]
  refine aB;refine bI;exact .inr ⟨oo,by rw[hoc];rfl,rfl⟩
 rw[if_neg (fun e=>e hok)]at hocd;refine aB;rename_i b2 _ b4 _ _ _ _ _ _ _;refine lf rfl rfl rfl (S:=[]) (fun w hw ho=>aBn (wY ys) (hY ys) w oo) ?_;rintro v S' ⟨Ap,cp,rfl,rfl⟩;have hpl:=aA4 (wY ys) (nY ys);have hnn:nT (wY ys) (hY ys)=nY ys:=rfl;rw[hnn];refine dD (e:=3) (size:=1) ?_;refine dD (e:=3) (size:=1) ?_;refine aB;refine eX 94 _ rfl (v':=.int .i64 (nY ys:Nat)) (by rw[hpl]) ?_;refine eX 10 _ rfl (v':=.int .i64 (fP ys 0:Nat)) (by rw[fP,hn0]) ?_;refine bT (X:=Nat×(Option Addr×Nat)×(Option Addr×Nat)) (fun q=>q.1≤nY ys∧∀j,j<q.1→vO ys j=fP ys j)
  (fun q=>[(0,.slice A ys.length c),(2,.pointer (some ⟨b2,0,none⟩)),(4,.pointer (some ⟨b4,0,none⟩)),(10,.int .i64 (fP ys q.1:Nat)),(94,.int .i64 (nY ys:Nat)),(95,.int .i64 q.1)])
  (fun q=>[.blk b4 219 [.int .i64 (wY ys:Nat),.int .i64 (hY ys:Nat),.slice none 0 0,.int .i64 (nW ys:Nat),.int .i32 (kN ox),.int .i32 (kN oy),.slice q.2.1.1 (dZ ys q.1).length q.2.1.2,.slice q.2.2.1 (eJ ys q.1).length q.2.2.2],.row (.slice q.2.1.1 (dZ ys q.1).length q.2.1.2) 3 1 (dZ ys q.1).length (aC .i64 (dZ ys q.1)),.row (.slice q.2.2.1 (eJ ys q.1).length q.2.2.2) 3 1 (eJ ys q.1).length (aC .i64 (eJ ys q.1)),.blk b2 219 [.int .i64 0,.int .i64 0,.slice none 0 0,.int .i64 0,.int .i32 0,.int .i32 0,.slice none 0 0,.slice none 0 0]]) (fun q=>nY ys-q.1) (0,(none,0),(none,0)) ⟨aE,fun j hj=>by omega⟩ ?_ ?_ ?_
 ·exact⟨rfl,rfl,rfl,rfl,rfl,rfl,trivial⟩
 ·exact(aA.cons (.there _ (.there _ (.there _ (.there _ (.here _ _))))) (aA.cons (.here _ _) (aA.cons (.here _ _) (aA.cons (.there _ (.there _ (.here _ _))) (aA.nil _)))))
 rintro⟨i,⟨A1,c1⟩,⟨A2,c2⟩⟩ ⟨hi,hfr⟩;simp only at hi hfr ⊢;have hal:=aF2 ys i;have hsl:=aI6 ys i;rcases Nat.lt_or_ge i (nY ys) with h|h
 ·have hlf:=sY hu (a:=18+6*i) (n:=4) oo;have hls:=sY hu (a:=18+6*i+4) (n:=2) oo;refine aB;refine eX 101 _ rfl (v':=.int .i64 (18+6*i:Nat)) (by push_cast;rfl) ?_;refine bQ rfl rfl rfl (fun w hw=>wT A c ys (18+6*i) 4 w ⟨hr.h.go hw (aD.nil _)⟩ hu oo oo oo) ?_;have ef:dW ys (18+6*i) 4=vO ys i:=rfl;rw[ef]at hlf ⊢;refine aB;refine eX 107 _ rfl (v':=.int .i64 (18+6*i+4:Nat)) (by push_cast;rfl) ?_;refine bQ rfl rfl rfl (fun w hw=>wT A c ys (18+6*i+4) 2 w ⟨hr.h.go hw (aD.nil _)⟩ hu oo oo oo) ?_;have es:dW ys (18+6*i+4) 2=lN ys i:=rfl;rw[es]at hls ⊢;by_cases hfe:vO ys i=fP ys i
  rotate_left
  ·have hoc:mG ys=2:=by rw[hocd,if_pos (fun e=>hfe (e i h))]
   refine aB;refine bI;exact .inr ⟨oo,by rw[hoc];rfl,rfl⟩
  have hps:=aQt ys i;have hpz:=bBl ys i;have hnx:fP ys (i+1)=fP ys i+lN ys i:=rfl;rw[hfe];rw[hfe]at hlf;have hbig:fP ys i≤4294967296:=oo;refine xU;refine dL [.blk b4 219 [.int .i64 (wY ys:Nat),.int .i64 (hY ys:Nat),.slice none 0 0,.int .i64 (nW ys:Nat),.int .i32 (kN ox),.int .i32 (kN oy),.slice A1 (dZ ys i).length c1,.slice A2 (eJ ys i).length c2]] [true,true,true,false,false,true,true,false,false,false,true,false,false,false] [3,4,7,8,9,11,12,13] aA.au rfl od bD ?_;refine jG;all_goals first
   | (rename_i A3 c3 A4 c4;exact aN (i+1,(A3,c3),(A4,c4)) ⟨by show i+1≤_;omega,fun j hj=>by
     rcases Nat.lt_or_ge j i with h1|h1
     ·exact hfr j h1
     ·rw[show j=i by omega];exact hfe⟩ (by show _-(i+1)<_-i;omega) ⟨rfl,rfl,rfl,by simp only[hnx];rfl,rfl,by simp[aH],trivial⟩ (by simp only[hps,hpz];exact aA.au))
   | (rename_i A3 c3 _ A4 c4;exact aN (i+1,(A3,c3),(A4,c4)) ⟨by show i+1≤_;omega,fun j hj=>by
     rcases Nat.lt_or_ge j i with h1|h1
     ·exact hfr j h1
     ·rw[show j=i by omega];exact hfe⟩ (by show _-(i+1)<_-i;omega) ⟨rfl,rfl,rfl,by simp only[hnx];rfl,rfl,by simp[aH],trivial⟩ (by simp only[hps,hpz];exact aA.au))
 ·obtain rfl:i=nY ys:=oo;have hfr2:∀j,j<nY ys→vO ys j=fP ys j:=hfr;rw[if_neg (fun e=>e hfr2)]at hocd;by_cases hend:fP ys (nY ys)=ys.length
  ·rw[if_neg (fun e=>e hend)]at hocd;refine jG;refine eD (.cons (.there _ (.here _ _)) (.cons (.there _ (.here _ _)) (.nil _))) ?_;refine cY
   trace_state
   refine .inl ⟨hocd,_,_,_,_,?_,rfl⟩;rw[hox,hoy];rfl
  ·rw[if_pos hend]at hocd;refine jG;refine bI;exact .inr ⟨oo,by rw[hocd];rfl,rfl⟩
def oO(ys:List Int)(i:Nat)(zs:List Int):Prop:=zs.length=eM (wY ys) (hY ys) i*pH (wY ys) (hY ys) i∧dK zs∧pD ys i=lD (rF (eM (wY ys) (hY ys) i) zs)
def yH(ys:List Int)(i:Nat)(code:Int):Prop:=(code=4∧¬qQ (pD ys i))∨(qQ (pD ys i)∧((code=3∧¬aAj (eM (wY ys) (hY ys) i*pH (wY ys) (hY ys) i) ((pD ys i).take ((pD ys i).length-4)))∨(code=2∧aAj (eM (wY ys) (hY ys) i*pH (wY ys) (hY ys) i) ((pD ys i).take ((pD ys i).length-4)))))
theorem yH.ne{ys:List Int}{i:Nat}{code:Int}(h:yH ys i code):code≠0:=by rcases h with⟨rfl,-⟩ | ⟨-,⟨rfl,-⟩ | ⟨rfl,-⟩⟩<;>decide
def aQd(ys:List Int)(i:Nat)(v:Value)(S':List HE):Prop:=∃(zs:List Int) (A:Option Addr) (c:Nat) (code:Int) (T:List HE),v=.tuple #[.slice A zs.length c,.int .i64 code]∧S'=.row (.slice A zs.length c) 121 1 zs.length (aC .i16 zs)::T∧((code=0∧oO ys i zs)∨(yH ys i code∧zs=[]∧∀z,¬oO ys i z))
abbrev aTe(ys:List Int)(A1:Option Addr)(c1:Nat)(A2:Option Addr)(c2:Nat):Value:=.agg #[.int .i64 (wY ys:Nat),.int .i64 (hY ys:Nat),.slice none 0 0,.int .i64 (nW ys:Nat),.int .i32 (kN (dW ys 10 4)),.int .i32 (kN (dW ys 14 4)),.slice A1 (dZ ys (nY ys)).length c1,.slice A2 (eJ ys (nY ys)).length c2]
theorem aK9(ys:List Int):(lD ys).take ((lD ys).length-4)=ys:=by rw[zU,Nat.add_sub_cancel];unfold lD;rw[List.take_left]
theorem aKe(A:Option Addr)(c:Nat)(ys:List Int)(A1 A2:Option Addr)(c1 c2:Nat)(i:Nat)(w:World)(hr:bF w (aV []) A ys.length c 1 (aC .u8 ys))(h1:bF w (aV []) A1 (dZ ys (nY ys)).length c1 1 (aC .i64 (dZ ys (nY ys))))(h2:bF w (aV []) A2 (eJ ys (nY ys)).length c2 1 (aC .i64 (eJ ys (nY ys))))(hu:dV ys)(hm:ys.length<100000000)(hO:yC ys)(hi:i<nY ys):
  aF prog 160 [.slice A ys.length c,aTe ys A1 c1 A2 c2,.int .i64 i] [] w (aQd ys i):=by
 have hal:=aF2 ys (nY ys);have hsl:=aI6 ys (nY ys);have hrg:=hO.rng;have hin:=hO.in_ hi;have hatg:=aQs ys _ i hi;have hszg:=bBk ys _ i hi;unfold rE at hrg;have hn:nY ys≤256:=xH oo;have hcl:ys.length≤c:=by obtain⟨_,_,e,q1,-⟩:=hr.h;injection e with _ _ e;omega
 have hpg:=aDn (wY ys) (nT (wY ys) (hY ys)) i hi;have hpl:=aA4 (wY ys) (nT (wY ys) (hY ys));have hi2:i<nT (wY ys) (hY ys):=hi;have hbx:=aBv (W:=wY ys) (H:=hY ys) hi;obtain⟨hX,hY'⟩:=aEa (W:=wY ys) (H:=hY ys) (i:=i) oo hi;refine aJ func160 rfl ntmps160 rfl ⟨aE,.nil⟩ (fun n=>?_);simp only[aG];refine aB;refine aAt _ (0::1::2::3::4::5::6::7::8::9::10::11::12::13::14::15::16::17::18::19::20::21::22::23::24::25::26::27::28::29::[]) (aA.refl _) bD od bD bD bD ?_;intro _;refine xV;refine lf rfl rfl rfl (S:=[]) (fun w hw ho=>aBn (wY ys) (hY ys) w oo) ?_;rintro v S' ⟨Ap,cp,rfl,rfl⟩;refine xV;refine xV;simp only[hpg];refine bQ rfl rfl rfl (fun w _=>aAr (wY ys) (hY ys) (tX (wY ys) i) (tY (wY ys) i) w hX hY' oo) ?_;obtain⟨b1,o1,rfl,hA1⟩:=h1.at_ (by omega:0<(dZ ys (nY ys)).length);obtain⟨b2,o2,rfl,hA2⟩:=h2.at_ (by omega:0<(eJ ys (nY ys)).length);refine xV;refine aAt _ (0::1::2::3::4::5::6::7::8::9::10::11::12::13::14::15::16::17::18::19::20::21::22::23::[]) (aA.refl _) bD od bD bD bD ?_;intro _;refine xV;refine eX 55 _ rfl (v':=.int .i64 (fP ys i:Nat)) (by rw[hatg]) ?_;refine eX 66 _ rfl (v':=.int .i64 (fP ys i+lN ys i:Nat)) (by rw[hatg,hszg];push_cast;rfl) ?_;refine aBa (fP ys i) (fP ys i+lN ys i) hr oo fun hr0=>?_;rw[Nat.add_sub_cancel_left]at hr0;refine xV;rw[Nat.add_sub_cancel_left];have hgl:=aOb hin;have hgu:=aOc hu (fP ys i) (lN ys i);refine lf rfl rfl rfl (S:=[]) (fun w hw ho=>aKb _ _ (lN ys i) (pD ys i) w hgl ⟨hr0.h.go hw (aD.nil _)⟩ hgu oo) ?_;rintro v S' hcg;have hgl2:(pD ys i).length=lN ys i:=hgl;rcases hcg with⟨hok,Ag,cg,rfl,rfl⟩ | ⟨hno,rfl,rfl⟩
 rotate_left
 ·refine xV;refine dD (e:=121) (size:=1) ?_;exact cM rfl rfl rfl (.cons (.here _ _) (.nil _)) ⟨[],none,0,4,[],rfl,rfl,.inr ⟨.inl ⟨rfl,hno⟩,rfl,fun z hz=>hno (by rw[hz.2.2];exact aK8 _)⟩⟩
 have hbu:dV ((pD ys i).take (lN ys i-4)):=fun x hx=>hgu x (List.mem_of_mem_take hx);have hbl:((pD ys i).take (lN ys i-4)).length≤lN ys i:=by rw[List.length_take];omega
 have hsl2:=sY hu (a:=18+6*i+4) (n:=2) (by have:=hO.head;unfold gM at this;omega);have hsz2:lN ys i<65536:=hsl2;have heq:=aT7 hok;rw[hgl2]at heq;have hnone:∀z,oO ys i z→dT (fN (eU z (eM (wY ys) (hY ys) i)))=(pD ys i).take (lN ys i-4):=by intro z hz;have h3:=aK9 (rF (eM (wY ys) (hY ys) i) z);rw[← hz.2.2,hgl2]at h3;exact h3.symm
 refine xV;refine lf rfl rfl rfl (S:=[]) (fun w hw ho=>aUe Ag cg ((pD ys i).take (lN ys i-4)) (eM (wY ys) (hY ys) i) (pH (wY ys) (hY ys) i) w ⟨Ro.row hw (aD.nil _) (by refine bV)⟩ hbu oo oo) ?_;rintro v S' ⟨zs,Az,cz,code,T,rfl,rfl,hz⟩;refine kF (H':=[.row (.slice Az zs.length cz) 121 1 zs.length (aC .i16 zs)]) (.cons (.here _ _) (.nil _)) ?_;refine jG;refine cM rfl rfl rfl (aA.refl _) ⟨zs,Az,cz,code,[],rfl,rfl,?_⟩;rcases hz with⟨rfl,g1,g2,g3⟩ | ⟨hcode,rfl,hno⟩
 ·exact .inl ⟨rfl,g1,g2,by rw[heq];unfold rF;rw[g3]⟩
 ·refine .inr ⟨.inr ⟨hok,?_⟩,rfl,fun z hz=>hno z hz.1 hz.2.1 (hnone z hz)⟩;rw[hgl2];exact hcode
