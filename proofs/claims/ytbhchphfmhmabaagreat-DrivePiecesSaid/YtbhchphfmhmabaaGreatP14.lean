import Derived.Laws.BitsAllLaws
import Derived.Test.YtbhchphfmhmabaaGreatP09
import Derived.Test.YtbhchphfmhmabaaGreatP12
import Derived.Test.YtbhchphfmhmabaaGreatP13
set_option maxHeartbeats 512000000
set_option maxRecDepth 4000
set_option linter.unusedVariables false
set_option linter.unusedSimpArgs false
namespace Go.Proofs.YtbhchphfmhmabaaGreat
open _root_.Go.Proofs.Tryz
def kI(ys:List Int):List Int:=ys++cX (qE ys) 4
theorem yW(ys:List Int):(kI ys).length=ys.length+4:=by simp[kI,eL]
theorem dL.app{a b:List Int}(h:dL a)(g:dL b):dL (a++b):=fun x hx=>(List.mem_append.1 hx).elim (h x) (g x)
theorem aJj{ys:List Int}(h:dL ys):dL (kI ys):=dL.app h (uL _ _)
def pM(ys:List Int):Prop:=4≤ys.length∧ys.drop (ys.length-4)=cX (qE (ys.take (ys.length-4))) 4
instance (ys:List Int):Decidable (pM ys):=by unfold pM;infer_instance
theorem aJh(ys:List Int):pM (kI ys):=by refine⟨by rw[yW];omega,?_⟩;rw[yW,Nat.add_sub_cancel];unfold kI;rw[List.drop_left,List.take_left]
theorem aSl{ys:List Int}(h:pM ys):ys=kI (ys.take (ys.length-4)):=by unfold kI;rw[← h.2,List.take_append_drop]
def pD(ys:List Int)(a n:Nat):List Int:=(ys.drop a).take n
theorem aNe{ys:List Int}{a n:Nat}(h:a+n≤ys.length):(pD ys a n).length=n:=by simp[pD];omega
theorem aNf{ys:List Int}(h:dL ys)(a n:Nat):dL (pD ys a n):=fun x hx=>h x (List.mem_of_mem_drop (List.mem_of_mem_take hx))
theorem lJ(a r:List Int){m i k n:Nat}(ha:a.length=m)(hk:k=m+i):pD (a++r) k n=pD r i n:=by subst ha hk;unfold pD;rw[List.drop_append,List.drop_eq_nil_of_le oo,List.nil_append,Nat.add_sub_cancel_left]
theorem vG(b c:List Int){n:Nat}(hb:b.length=n):pD (b++c) 0 n=b:=by subst hb;simp[pD]
theorem bAl(a b c:List Int){i n:Nat}(ha:a.length=i)(hb:b.length=n):pD (a++b++c) i n=b:=by rw[List.append_assoc,lJ a _ ha (Nat.add_zero _).symm,vG b c hb]
def dN(ys:List Int)(a n:Nat):Nat:=nP (pD ys a n)
theorem sB{ys:List Int}(h:dL ys){a n:Nat}(hn:a+n≤ys.length):dN ys a n<256^n:=by have:=aX0 (aNf h a n);rw[aNe hn]at this;exact this
def nT(W H:Nat):Nat:=bC W*bC H
def fV(W H:Nat):Nat:=22+6*nT W H
def tX(W i:Nat):Int:=((i%bC W:Nat):Int)
def tY(W i:Nat):Int:=((i/bC W:Nat):Int)
def dX(W H i:Nat):Nat:=(cU W H (tX W i) (tY W i)).2.2.1
def nX(W H i:Nat):Nat:=(cU W H (tX W i) (tY W i)).2.2.2
def jM(W H:Nat)(z:List Int)(i:Nat):List Int:=qS W H z (tX W i) (tY W i)
def qC(wd:Nat)(z:List Int):List Int:=dJ (eZ (dZ z wd))
def pH(W H:Nat)(z:List Int)(i:Nat):List Int:=kI (qC (dX W H i) (jM W H z i))
def jF(W H:Nat)(z:List Int):Nat→List Int
 | 0=>[]
 | i+1=>jF W H z i++pH W H z i
def qG(x:Int):Nat:=(x%4294967296).toNat
def tM(W H cell:Nat)(ox oy:Int):List Int:=cX 1296978516 4++cX W 2++cX H 2++cX cell 2++cX (qG ox) 4++cX (qG oy) 4
def lG(W H cell:Nat)(ox oy:Int)(z:List Int):Nat→List Int
 | 0=>tM W H cell ox oy
 | i+1=>lG W H cell ox oy z i++cX (fV W H+(jF W H z i).length) 4++cX (pH W H z i).length 2
def fK(W H cell:Nat)(ox oy:Int)(z:List Int):List Int:=kI (lG W H cell ox oy z (nT W H))++jF W H z (nT W H)
theorem aMy(wd:Nat)(z:List Int)(h:z.length≤256):1≤(qC wd z).length∧(qC wd z).length≤1220:=by have hrl:=aN3 (dZ z wd);have hbk:=uK (dZ z wd);have hbs:=aA8 (dZ z wd) (fY (dZ z wd)) hbk;have hdl:=uP z wd;have hpl:=rB (eZ (dZ z wd));unfold qC;omega
theorem aMz(wd:Nat)(z:List Int):dL (qC wd z):=aY0 _
theorem aJ9{W:Nat}(h:2≤W):1≤bC W:=by unfold bC;omega
theorem wD{W:Nat}(h:W≤256):bC W≤16:=by unfold bC;omega
theorem wM{W H:Nat}(h:W≤256∧H≤256):nT W H≤256:=by have:=Nat.mul_le_mul (wD h.1) (wD h.2);unfold nT;omega
theorem aWe{W H:Nat}(h:2≤W∧2≤H):1≤nT W H:=Nat.mul_pos (aJ9 h.1) (aJ9 h.2)
theorem aHn{W H i:Nat}(hi:i<nT W H):i%bC W<bC W∧i/bC W<bC H:=by
 unfold nT at hi;have hp:0<bC W:=by
  rcases Nat.eq_zero_or_pos (bC W) with e|e
  ·rw[e,Nat.zero_mul]at hi;omega
  ·exact e
 exact⟨Nat.mod_lt _ hp,Nat.div_lt_of_lt_mul hi⟩
theorem aB6{W H i:Nat}(hi:i<nT W H):1≤dX W H i∧dX W H i≤16∧1≤nX W H i∧nX W H i≤16:=by obtain⟨h1,h2⟩:=aHn hi;unfold dX nX tX tY;rw[aBs h1 h2];generalize i%bC W=x at *;generalize i/bC W=y at *;unfold bC at h1 h2;simp only;omega
theorem aC9{W H i:Nat}{z:List Int}(hz:z.length=W*H):(jM W H z i).length=dX W H i*nX W H i:=by have hbx:=vV W H (tX W i) (tY W i);unfold jM qS dX nX;rw[yX hz hbx.1 hbx.2.1 _ (Nat.le_refl _),Nat.mul_comm]
theorem aC8{W H i:Nat}{z:List Int}(hz:z.length=W*H):(jM W H z i).length≤256:=by have hbx:=vV W H (tX W i) (tY W i);have:=Nat.mul_le_mul hbx.2.2.1 hbx.2.2.2;rw[aC9 hz];exact this
theorem aHm{W H i:Nat}{z:List Int}(hz:z.length=W*H):5≤(pH W H z i).length∧(pH W H z i).length≤1224:=by have:=aMy (dX W H i) _ (aC8 (i:=i) hz);unfold pH;rw[yW];omega
theorem bBu(W H i:Nat)(z:List Int):dL (pH W H z i):=aJj (aMz _ _)
theorem aIo(W H:Nat)(z:List Int):∀i,dL (jF W H z i)
 | 0=>by intro x hx;simp[jF]at hx
 | i+1=>dL.app (aIo W H z i) (bBu W H i z)
theorem aBr{W H:Nat}{z:List Int}(hz:z.length=W*H):∀i,(jF W H z i).length≤1224*i
 | 0=>by simp[jF]
 | i+1=>by have:=aBr hz i;have:=aHm (i:=i) hz;rw[jF,List.length_append];omega
theorem aUc(W H cell:Nat)(ox oy:Int):(tM W H cell ox oy).length=18:=by simp[tM,eL]
theorem aUd(W H cell:Nat)(ox oy:Int):dL (tM W H cell ox oy):=dL.app (dL.app (dL.app (dL.app (dL.app (uL _ _) (uL _ _)) (uL _ _)) (uL _ _)) (uL _ _)) (uL _ _)
theorem aCa(W H cell:Nat)(ox oy:Int)(z:List Int):∀i,(lG W H cell ox oy z i).length=18+6*i
 | 0=>aUc ..
 | i+1=>by rw[lG,List.length_append,List.length_append,aCa W H cell ox oy z i,eL,eL];omega
theorem aCb(W H cell:Nat)(ox oy:Int)(z:List Int):∀i,dL (lG W H cell ox oy z i)
 | 0=>aUd W H cell ox oy
 | i+1=>dL.app (dL.app (aCb W H cell ox oy z i) (uL _ _)) (uL _ _)
theorem aRv(W H cell:Nat)(ox oy:Int)(z:List Int):dL (fK W H cell ox oy z):=dL.app (aJj (aCb W H cell ox oy z _)) (aIo W H z _)
theorem aFk(W H cell:Nat)(ox oy:Int)(z:List Int):(kI (lG W H cell ox oy z (nT W H))).length=fV W H:=by rw[yW,aCa];unfold fV;omega
theorem aJ3(W H cell:Nat)(ox oy:Int)(z:List Int):(fK W H cell ox oy z).length=fV W H+(jF W H z (nT W H)).length:=by unfold fK;rw[List.length_append,aFk]
theorem aEx(W H cell:Nat)(ox oy:Int)(z:List Int)(i:Nat):∀k,∃t,lG W H cell ox oy z (i+k)=lG W H cell ox oy z i++t
 | 0=>⟨[],aE⟩
 | k+1=>by obtain⟨t,h⟩:=aEx W H cell ox oy z i k;rw[← Nat.add_assoc,lG,h,List.append_assoc,List.append_assoc];exact⟨_,rfl⟩
theorem aIn(W H:Nat)(z:List Int)(i:Nat):∀k,∃t,jF W H z (i+k)=jF W H z i++t
 | 0=>⟨[],aE⟩
 | k+1=>by obtain⟨t,h⟩:=aIn W H z i k;rw[← Nat.add_assoc,jF,h,List.append_assoc];exact⟨_,rfl⟩
def wY(ys:List Int):Nat:=dN ys 4 2
def hY(ys:List Int):Nat:=dN ys 6 2
def mR(ys:List Int):Nat:=dN ys 8 2
def uS(ys:List Int)(i:Nat):Nat:=dN ys (18+6*i) 4
def kR(ys:List Int)(i:Nat):Nat:=dN ys (18+6*i+4) 2
def fA(ys:List Int):Nat→Nat
 | 0=>fV (wY ys) (hY ys)
 | i+1=>fA ys i+kR ys i
def nY(ys:List Int):Nat:=nT (wY ys) (hY ys)
def qB(ys:List Int):Prop:=2≤wY ys∧wY ys≤256∧2≤hY ys∧hY ys≤256∧1≤mR ys∧mR ys≤1000
instance (ys:List Int):Decidable (qB ys):=by unfold qB;infer_instance
def lI(ys:List Int):Int :=
 if ys.length<18 then 5 else if dN ys 0 4≠1296978516 then 3 else if ¬qB ys then 2 else if ys.length<fV (wY ys) (hY ys)then 5
 else if ¬pM (ys.take (fV (wY ys) (hY ys)))then 4 else if ¬(∀i,i<nY ys→uS ys i=fA ys i)then 2 else if fA ys (nY ys)≠ys.length then 5 else 0
structure xH(ys:List Int):Prop where
 len:18≤ys.length
 mag:dN ys 0 4=1296978516
 rng:qB ys
 head:fV (wY ys) (hY ys)≤ys.length
 sum:pM (ys.take (fV (wY ys) (hY ys)))
 dir:∀i,i<nY ys→uS ys i=fA ys i
 size:fA ys (nY ys)=ys.length
theorem aM6(ys:List Int):lI ys=0↔xH ys:=by
 unfold lI;constructor
 ·intro h;repeat' (split at h;omega)
  constructor<;>first|assumption|omega|(apply Decidable.of_not_not;assumption)
 ·intro h;obtain⟨h1,h2,h3,h4,h5,h6,h7⟩:=h;rw[if_neg oo,if_neg oo,if_neg (fun e=>e h3),if_neg oo,if_neg (fun e=>e h5),if_neg (fun e=>e h6),if_neg oo]
theorem aIj(ys:List Int)(i:Nat):∀k,fA ys i≤fA ys (i+k)
 | 0=>Nat.le_refl _
 | k+1=>by have:=aIj ys i k;rw[← Nat.add_assoc,fA];omega
def nS(ys:List Int)(i:Nat):List Int:=pD ys (fA ys i) (kR ys i)
theorem xH.in_{ys:List Int}(h:xH ys){i:Nat}(hi:i<nY ys):fA ys i+kR ys i≤ys.length:=by have:=aIj ys (i+1) (nY ys-(i+1));rw[show i+1+(nY ys-(i+1))=nY ys by omega,h.size,fA]at this;exact this
section
variable {W H cell:Nat} {ox oy:Int} {z:List Int}
theorem aRu:∃t,fK W H cell ox oy z=tM W H cell ox oy++t:=by obtain⟨t,h⟩:=aEx W H cell ox oy z 0 (nT W H);rw[Nat.zero_add]at h;unfold fK kI;rw[h,lG,List.append_assoc,List.append_assoc];exact⟨_,rfl⟩
theorem wK{ys:List Int}{a n x:Nat}(h:pD ys a n=cX x n)(hx:x<256^n):dN ys a n=x:=by unfold dN;rw[h,aM0,Nat.mod_eq_of_lt hx]
theorem zW(x:Int):qG x<256^4:=by unfold qG;omega
theorem aC0(hW:W≤256∧H≤256∧cell≤1000):dN (fK W H cell ox oy z) 0 4=1296978516∧wY (fK W H cell ox oy z)=W∧hY (fK W H cell ox oy z)=H∧mR (fK W H cell ox oy z)=cell∧dN (fK W H cell ox oy z) 10 4=qG ox∧dN (fK W H cell ox oy z) 14 4=qG oy:=by
 obtain⟨t,h⟩:=aRu (W:=W) (H:=H) (cell:=cell) (ox:=ox) (oy:=oy) (z:=z);unfold wY hY mR;rw[h];unfold tM;simp only[List.append_assoc];refine⟨wK (vG _ _ (eL ..)) oo,wK ?_ oo,wK ?_ oo,wK ?_ oo,wK ?_ (zW _),wK ?_ (zW _)⟩
 ·rw[lJ _ _ (eL ..) (i:=0) rfl,vG _ _ (eL ..)]
 ·rw[lJ _ _ (eL ..) (i:=2) rfl,lJ _ _ (eL ..) (i:=0) rfl,vG _ _ (eL ..)]
 ·rw[lJ _ _ (eL ..) (i:=4) rfl,lJ _ _ (eL ..) (i:=2) rfl,lJ _ _ (eL ..) (i:=0) rfl,vG _ _ (eL ..)]
 ·rw[lJ _ _ (eL ..) (i:=6) rfl,lJ _ _ (eL ..) (i:=4) rfl,lJ _ _ (eL ..) (i:=2) rfl,lJ _ _ (eL ..) (i:=0) rfl,vG _ _ (eL ..)]
 ·rw[lJ _ _ (eL ..) (i:=10) rfl,lJ _ _ (eL ..) (i:=8) rfl,lJ _ _ (eL ..) (i:=6) rfl,lJ _ _ (eL ..) (i:=4) rfl,lJ _ _ (eL ..) (i:=0) rfl,vG _ _ (eL ..)]
theorem aEr(hW:W≤256∧H≤256)(hz:z.length=W*H){i:Nat}(hi:i<nT W H):uS (fK W H cell ox oy z) i=fV W H+(jF W H z i).length∧kR (fK W H cell ox oy z) i=(pH W H z i).length:=by
 obtain⟨t,h⟩:=aEx W H cell ox oy z (i+1) (nT W H-(i+1));rw[show i+1+(nT W H-(i+1))=nT W H by omega]at h;have hn:=wM hW;have hb:=aBr hz i;have ht:=aHm (i:=i) hz;have hd:=aCa W H cell ox oy z i;unfold uS kR fK kI;rw[h,lG];simp only[List.append_assoc];refine⟨wK ?_ (by unfold fV;omega),wK ?_ oo⟩
 ·rw[lJ _ _ hd (Nat.add_zero _).symm,vG _ _ (eL ..)]
 ·rw[lJ _ _ hd (i:=4) rfl,lJ _ _ (eL ..) (i:=0) rfl,vG _ _ (eL ..)]
theorem aBz(hW:W≤256∧H≤256∧cell≤1000)(hz:z.length=W*H):∀i,i≤nT W H→fA (fK W H cell ox oy z) i=fV W H+(jF W H z i).length
 | 0,_=>by
  obtain⟨-,h1,h2,-⟩:=aC0 (ox:=ox) (oy:=oy) (z:=z) hW;rw[fA,h1,h2];rfl
 | i+1,hi=>by rw[fA,aBz hW hz i oo,(aEr ⟨hW.1,hW.2.1⟩ hz oo).2,jF,List.length_append];omega
theorem aRz(hW:W≤256∧H≤256∧cell≤1000)(hz:z.length=W*H){i:Nat}(hi:i<nT W H):nS (fK W H cell ox oy z) i=pH W H z i:=by obtain⟨t,h⟩:=aIn W H z (i+1) (nT W H-(i+1));rw[show i+1+(nT W H-(i+1))=nT W H by omega]at h;unfold nS;rw[aBz hW hz i oo,(aEr ⟨hW.1,hW.2.1⟩ hz hi).2];unfold fK;rw[lJ _ _ (aFk ..) rfl,h,jF];exact bAl _ _ _ rfl rfl
theorem aJ5(hW:2≤W∧W≤256∧2≤H∧H≤256∧1≤cell∧cell≤1000)(hz:z.length=W*H):xH (fK W H cell ox oy z):=by
 have hw:W≤256∧H≤256∧cell≤1000:=oo;obtain⟨h1,h2,h3,h4,-⟩:=aC0 (ox:=ox) (oy:=oy) (z:=z) hw;have hl:=aJ3 W H cell ox oy z;refine⟨by rw[hl];unfold fV;omega,h1,⟨oo,oo,oo,oo,oo,oo⟩,by rw[h2,h3,hl];omega,?_,?_,?_⟩
 ·rw[h2,h3];unfold fK;rw[List.take_left' (aFk ..)];exact aJh _
 ·unfold nY;rw[h2,h3];intro i hi;rw[(aEr ⟨hw.1,hw.2.1⟩ hz hi).1,aBz hw hz i oo]
 ·unfold nY;rw[h2,h3,aBz hw hz _ (Nat.le_refl _),hl]
end
def uE(W H:Nat)(z g:List Int)(i:Nat):Prop:=g.length=W*H∧∀x y,x<W→y<H→(y/16)*bC W+x/16<i→g.getD (y*W+x) 0=z.getD (y*W+x) 0
theorem uE.zero{W H:Nat}{z g:List Int}(h:g.length=W*H):uE W H z g 0:=⟨h,fun _ _ _ _ h=>by omega⟩
theorem uE.next{W H:Nat}{z g:List Int}{i:Nat}(hz:z.length=W*H)(hi:i<nT W H)(h:uE W H z g i):uE W H z (aL2 W H z g (i%bC W) (i/bC W)) (i+1):=by
 obtain⟨h1,h2⟩:=aHn hi;have hbx:=vV W H (i%bC W:Nat) (i/bC W:Nat);have hsz:=(aQq h1 h2 hz).1;refine⟨aAp h.1 hbx.1 hbx.2.1 hsz _ (Nat.le_refl _),fun x y hx hy e=>?_⟩;unfold aL2 qS;refine aL6 hz h.1 hbx.1 hbx.2.1 _ (Nat.le_refl _) ?_;rcases Nat.lt_or_ge ((y/16)*bC W+x/16) i with e1|e1
 ·exact .inl (h.2 x y hx hy e1)
 ·have hxc:x/16<bC W:=by unfold bC;omega
  have ee:i=x/16+bC W*(y/16):=by rw[Nat.mul_comm (bC W)];omega
  have e2:i%bC W=x/16:=by rw[ee,Nat.add_mul_mod_self_left,Nat.mod_eq_of_lt hxc]
  have e3:i/bC W=y/16:=by rw[ee,Nat.add_mul_div_left _ _ oo,Nat.div_eq_of_lt hxc,Nat.zero_add]
  refine .inr ⟨y-16*(y/16),?_⟩;rw[e2]at h1;rw[e3]at h2;rw[e2,e3];rw[aBs h1 h2];simp only;have:16*(y/16)+(y-16*(y/16))=y:=oo;rw[this];omega
theorem uE.all{W H:Nat}{z g:List Int}(hz:z.length=W*H)(h:uE W H z g (nT W H)):g=z:=by
 apply List.ext_getElem (by rw[h.1,hz]);intro p h1 h2
 have hW : 0 < W := by rcases Nat.eq_zero_or_pos W with e | e
                       · rw [hz, e, Nat.zero_mul] at h2; omega
                       · exact e
 have hp:p/W*W+p%W=p:=by rw[Nat.mul_comm];exact Nat.div_add_mod p W
 have hm:=Nat.mod_lt p hW;have hy:p/W<H:=Nat.div_lt_of_lt_mul oo;have h3:p%W/16<bC W:=by unfold bC;omega
 have h4:p/W/16<bC H:=by unfold bC;omega
 have h5:(p/W/16+1)*bC W≤bC H*bC W:=Nat.mul_le_mul_right _ h4;have:=h.2 (p%W) (p/W) hm hy (by unfold nT;rw[Nat.add_mul,Nat.one_mul,Nat.mul_comm (bC H)]at h5;omega);rw[hp,List.getD_eq_getElem?_getD,List.getD_eq_getElem?_getD,List.getElem?_eq_getElem h1,List.getElem?_eq_getElem h2]at this;simpa using this
theorem aKa{W x y bw:Nat}{z:List Int}(P:Int→Prop)(h0:P 0)(hz:∀i,P (z.getD i 0)):∀r i,P ((lF z W x y bw r).getD i 0)
 | 0,i=>by simpa [lF] using h0
 | r+1,i=>by
  rw[lF];rcases Nat.lt_or_ge i (lF z W x y bw r).length with h|h
  ·rw[List.getD_eq_getElem?_getD,List.getElem?_append_left h,← List.getD_eq_getElem?_getD];exact aKa P h0 hz r i
  ·rw[List.getD_eq_getElem?_getD,List.getElem?_append_right h];unfold yD;rw[List.getElem?_take,List.getElem?_drop];split
   ·rw[← List.getD_eq_getElem?_getD];exact hz _
   ·simpa using h0
theorem aKn{z:List Int}(hz:fD z)(W H i:Nat):fD (jM W H z i):=fun k=>aKa (fun x=>-32768≤x∧x≤32767) od hz _ k
open Go.RowKit
section
variable {P:Program} {w0:World} {W:Nat→Prop} {H:List HE}
instance (t:TypeId)(x:Operand)(a:Int):MS P w0 W H (.unOp .xor t x) [.int .u32 a] (.int .u32 (bits .xor .u32 4294967295 a)) True:=⟨fun _ _ _ _ _ _ _ _ _ _ _ _ _ _ h1 h2 h3=>dW aE rfl h2 (fun a w ha _=>by simp only[execOp,ha.eval (kP rfl h1),Op.unary,Op.intBits];rfl) h3⟩
instance (k:IntKind)(a:List Int)(v1 v2 v3 v4:Int):yN (aD k a) [.int k v1,.int k v2,.int k v3,.int k v4] (aD k (a++[v1,v2,v3,v4])):=⟨by simp[aD]⟩
end
theorem aKb{ys:List Int}(h:dL ys)(i:Nat):0≤ys.getD i 0∧ys.getD i 0<256:=by
 rcases Nat.lt_or_ge i ys.length with h1|h1
 ·exact h _ (by rw[List.getD_eq_getElem?_getD,List.getElem?_eq_getElem h1];exact List.getElem_mem ..)
 ·rw[List.getD_eq_getElem?_getD,List.getElem?_eq_none h1];simp
theorem bB5{r:Nat}(hr:r<4294967296):bits .xor .u32 ((r:Int)/2^1) (bits .and .u32 3988292384 (IntKind.u32.wrap (0-bits .and .u32 (r:Int) 1)))=(aAf r:Nat):=by
 have h1:bits .and .u32 (r:Int) 1=((r%2:Nat):Int):=by have:=u32_and_nat r 1 hr oo;rw[nat_mask1]at this;exact this
 have h2:(r:Int)/2^1=((r/2:Nat):Int):=oo;rw[h1,h2];unfold aAf;rcases Nat.mod_two_eq_zero_or_one r with h|h
 ·rw[h,if_neg oo];exact u32_xor_nat (r/2) 0 oo oo
 ·rw[h,if_pos rfl];exact u32_xor_nat (r/2) 3988292384 oo oo
attribute [local irreducible] OJ J bM Code.wpIn wpListIn Oper.wpIn bodyPost CallsIn aF
theorem aQr(r:Nat)(hr:r<4294967296)(w:World):aF prog 178 [.int .u32 r] [] w (fun v S'=>v=.int .u32 (aAg 8 r:Nat)∧S'=[]):=by
 refine aJ func178 rfl ntmps178 rfl ⟨aE,.nil⟩ (fun n=>?_);simp only[aG];refine bI;refine cG (X:=Nat) (fun i=>i≤8) (fun i=>[(0,.int .u32 (aAg i r:Nat)),(4,.int .i64 i)]) (fun _=>[]) (fun i=>8-i) 0 aE ⟨rfl,rfl,trivial⟩ (.nil _) ?_;intro i hi;have hk:=aEu hr i;have hs:=bB5 hk;refine aB
 ·exact aR (i+1) (by show i+1≤8;omega) (by show 8-(i+1)<8-i;omega) ⟨by rw[hs];rfl,by simp[aI],trivial⟩ (.nil _)
 ·obtain rfl:i=8:=oo;exact aM rfl rfl (.nil _) ⟨rfl,rfl⟩
theorem aO6(A:Option Addr)(c:Nat)(ys:List Int)(w:World)(hr:bP w (bB []) A ys.length c 1 (aD .u8 ys))(hu:dL ys)(hm:ys.length<1000000000):
  aF prog 129 [.slice A ys.length c] [] w (fun v S'=>v=.int .u32 (qE ys:Nat)∧S'=[]):=by
 refine aJ func129 rfl ntmps129 rfl ⟨aE,.nil⟩ (fun n=>?_);simp only[aG];refine bI;refine cG (X:=Nat) (fun i=>i≤ys.length) (fun i=>[(3,.int .u32 (uO ys 4294967295 i:Nat)),(6,.slice A ys.length c),(7,.int .i64 ys.length),(8,.int .i64 i)]) (fun _=>[]) (fun i=>ys.length-i) 0 aE ⟨rfl,rfl,rfl,rfl,trivial⟩ (.nil _) ?_;intro i hi;have hk:=aEv hu (r:=4294967295) oo i hi;have hy:=aKb hu i;rcases Nat.lt_or_ge i ys.length with h|h
 ·obtain⟨bA,oA,rfl,hA⟩:=hr.at_ (by omega:0<ys.length);have hx:bits .xor .u32 (uO ys 4294967295 i:Nat) (ys.getD i 0)=((uO ys 4294967295 i ^^^ (ys.getD i 0).toNat:Nat):Int):=u32_xor _ _ oo oo oo oo;have hxl:uO ys 4294967295 i ^^^ (ys.getD i 0).toNat<4294967296:=Nat.xor_lt_two_pow (n:=32) hk oo;refine aB;rw[hx];refine bU rfl rfl rfl (fun w _=>aQr _ hxl w) ?_;refine aB;exact aR (i+1) (by show i+1≤_;omega) (by show _-(i+1)<_-i;omega) ⟨rfl,rfl,rfl,by simp[aI],trivial⟩ (.nil _)
 ·obtain rfl:i=ys.length:=oo;have hx:bits .xor .u32 4294967295 (uO ys 4294967295 ys.length:Nat)=((4294967295 ^^^ uO ys 4294967295 ys.length:Nat):Int):=u32_xor_nat 4294967295 _ oo hk;refine aB;exact aM rfl rfl (.nil _) ⟨by rw[hx];rfl,rfl⟩
theorem bB7(A:Option Addr)(c m:Nat)(ys:List Int)(w:World)(hl:ys.length=m)(hr:bP w (bB []) A m c 1 (aD .u8 ys))(hu:dL ys)(hm:m<1000000000):
  aF prog 129 [.slice A m c] [] w (fun v S'=>v=.int .u32 (qE ys:Nat)∧S'=[]):=by
 subst hl;exact aO6 A c ys w hr hu hm
theorem aIp(x i:Nat):(x:Int)/2^(8*i)%256=((x/256^i%256:Nat):Int):=by rw[aD7];push_cast;rfl
theorem vW(A:Option Addr)(c:Nat)(ys:List Int)(x size:Nat)(w:World)(hr:bP w (bB []) A ys.length c 1 (aD .u8 ys))(hx:x<18446744073709551616)(hs:size≤8)(hm:ys.length<1000000000):
  aF prog 86 [.slice A ys.length c,.int .u64 x,.int .i64 size] [] w (fun v S'=>∃A' c',v=.slice A' (ys++cX x size).length c'∧S'=[.row (.slice A' (ys++cX x size).length c') 5 1 (ys++cX x size).length (aD .u8 (ys++cX x size))]):=by
 refine aJ func86 rfl ntmps86 rfl ⟨aE,.nil⟩ (fun n=>?_);simp only[aG];have hbl:=eL x size;refine bI;rename_i A0 c0;refine cG (X:=Nat×Option Addr×Nat) (fun q=>q.1≤size) (fun q=>[(1,.int .u64 x),(7,.slice q.2.1 (ys++(cX x size).take q.1).length q.2.2),(13,.int .i64 size),(14,.int .i64 q.1)])
  (fun q=>[.row (.slice q.2.1 (ys++(cX x size).take q.1).length q.2.2) 5 1 (ys++(cX x size).take q.1).length (aD .u8 (ys++(cX x size).take q.1))]) (fun q=>size-q.1) (0,A0,c0) aE ⟨rfl,by simp[aI],rfl,rfl,trivial⟩ (by simp only[List.take_zero,List.append_nil];exact aA.au) ?_
 rintro⟨i,A1,c1⟩ hi;simp only at hi ⊢;have htl:(ys++(cX x size).take i).length=ys.length+i:=by rw[List.length_append,List.length_take];omega
 rcases Nat.lt_or_ge i size with h|h
 ·have hat:=aQv x size i h;have e8:(8*(i:Int)).toNat=8*i:=oo;rw[← aIp,← IntKind.wrap_u8',← e8]at hat
  refine aB;rename_i A2 c2;rw[List.append_assoc,← hat];exact aR (i+1,A2,c2) (by show i+1≤_;omega) (by show _-(i+1)<_-i;omega) ⟨rfl,rfl,rfl,by simp[aI],trivial⟩ aA.au
 ·obtain rfl:i=size:=oo;rw[List.take_of_length_le (by omega:(cX x i).length≤i)];refine aB;exact aM rfl rfl aA.au ⟨_,_,rfl,rfl⟩
theorem aXf{x y i:Nat}(hx:x<256^i)(hy:y<256)(hi:i<8):bits .or .u64 (x:Int) (IntKind.u64.wrap ((y:Int)*2^min (8*(i:Int)).toNat IntKind.u64.bits))=((x+256^i*y:Nat):Int):=by
 have e1:min (8*(i:Int)).toNat IntKind.u64.bits=8*i:=by simp only[IntKind.bits];omega
 have e2:(y:Int)*2^(8*i)=((256^i*y:Nat):Int):=by rw[aD7];push_cast;rw[Int.mul_comm]
 have h7:256^i≤256^7:=Nat.pow_le_pow_right oo oo;have h8:256^i*y≤256^i*255:=Nat.mul_le_mul_left _ oo;rw[e1,e2,mJ (by simp only[bG];omega),u64_or_nat _ _ oo oo,Nat.or_comm,nat_join (8*i) _ _ (by rw[aD7,Nat.mul_mod_right]) (by rw[← aD7];exact hx),Nat.add_comm]
theorem aVk{ys:List Int}{a i:Nat}(h:a+i<ys.length):dN ys a (i+1)=dN ys a i+256^i*(ys.getD (a+i) 0).toNat:=by
 unfold dN pD;have e:(ys.drop a).take (i+1)=(ys.drop a).take i++[ys.getD (a+i) 0]:=by rw[List.take_succ_eq_append_getElem (by rw[List.length_drop];omega),List.getElem_drop,List.getD_eq_getElem?_getD,List.getElem?_eq_getElem h];rfl
 rw[e,aLz,List.length_take,List.length_drop,Nat.min_eq_left oo];simp[nP]
theorem aQi(A:Option Addr)(c:Nat)(ys:List Int)(at_ size:Nat)(w:World)(hr:bP w (bB []) A ys.length c 1 (aD .u8 ys))(hu:dL ys)(hs:size≤8)(ha:at_+size≤ys.length)(hm:ys.length<1000000000):
  aF prog 140 [.slice A ys.length c,.int .i64 at_,.int .i64 size] [] w (fun v S'=>v=.tuple #[.int .u64 (dN ys at_ size:Nat),.int .i64 0]∧S'=[]):=by
 refine aJ func140 rfl ntmps140 rfl ⟨aE,.nil⟩ (fun n=>?_);simp only[aG];refine aB;refine cG (X:=Nat) (fun i=>i≤size) (fun i=>[(0,.slice A ys.length c),(1,.int .i64 at_),(8,.int .u64 (dN ys at_ i:Nat)),(34,.int .i64 size),(35,.int .i64 i)]) (fun _=>[]) (fun i=>size-i) 0 aE ⟨rfl,rfl,by simp[aI,dN,pD,nP],rfl,rfl,trivial⟩ (.nil _) ?_;intro i hi;rcases Nat.lt_or_ge i size with h|h
 ·obtain⟨bA,oA,rfl,hA⟩:=hr.at_ (by omega:0<ys.length);have hlt:=sB hu (a:=at_) (n:=i) oo;have hy:=aKb hu ((at_:Int)+i).toNat
  have ee:((at_:Int)+i).toNat=at_+i:=oo;have hor:=aXf hlt (y:=(ys.getD (at_+i) 0).toNat) (i:=i) (by rw[← ee];omega) oo;rw[Int.toNat_of_nonneg (by rw[← ee];omega),← aVk oo,← ee]at hor;refine aB;exact aR (i+1) (by show i+1≤_;omega) (by show _-(i+1)<_-i;omega) ⟨rfl,rfl,by simp only[aI];first|(rw[hor];rfl)|(simp;exact hor),rfl,by simp[aI],trivial⟩ (.nil _)
 ·obtain rfl:i=size:=oo;refine aB;exact cY rfl rfl rfl (.nil _) ⟨rfl,rfl⟩
theorem aJl(A:Option Addr)(c:Nat)(ys:List Int)(w:World)(hr:bP w (bB []) A ys.length c 1 (aD .u8 ys))(hu:dL ys)(hm:ys.length<1000000000):
  aF prog 87 [.slice A ys.length c] [] w (fun v S'=>∃A' c',v=.slice A' (kI ys).length c'∧S'=[.row (.slice A' (kI ys).length c') 5 1 (kI ys).length (aD .u8 (kI ys))]):=by
 have hsl:=aO4 hu;have hb:ys++[IntKind.u8.wrap (qE ys:Nat),IntKind.u8.wrap ((qE ys:Nat)/2^8),IntKind.u8.wrap ((qE ys:Nat)/2^16),((qE ys:Nat):Int)/2^24]=kI ys:=by unfold kI;congr 1;simp only[cX,List.range_succ,List.range_zero,List.nil_append,List.cons_append,List.map_cons,List.map_nil,IntKind.wrap_u8'];simp only[List.cons.injEq,and_true];omega
 refine aJ func87 rfl ntmps87 rfl ⟨aE,.nil⟩ (fun n=>?_);simp only[aG];refine bI;refine bU rfl rfl rfl (fun w hw=>aO6 A c ys w ⟨hr.h.go hw (aC.nil _)⟩ hu hm) ?_;refine bI;rw[hb];exact aM rfl rfl (.cons (.there _ (.here _ _)) (.nil _)) ⟨_,_,rfl,rfl⟩
theorem aSm{ys:List Int}{m:Nat}(hl:ys.length=m+4):pM ys↔∀i,i<4→ys.getD (m+i) 0=((qE (ys.take m)/256^i%256:Nat):Int):=by
 unfold pM;rw[show ys.length-4=m by omega];constructor
 ·rintro⟨-,h⟩ i hi;rw[← aIr _ 4 i hi,← h];simp[List.getD_eq_getElem?_getD]
 ·intro h;refine⟨oo,List.ext_getElem (by rw[List.length_drop,eL];omega) fun i h1 h2=>?_⟩;have hi:i<4:=by rw[eL]at h2;exact h2
  have:=h i hi;rw[← aIr _ 4 i hi,List.getD_eq_getElem?_getD,List.getD_eq_getElem?_getD,List.getElem?_eq_getElem oo,List.getElem?_eq_getElem h2]at this;rw[List.getElem_drop];simpa using this
theorem aJk(A:Option Addr)(c n:Nat)(ys:List Int)(w:World)(hl:ys.length=n)(hr:bP w (bB []) A n c 1 (aD .u8 ys))(hu:dL ys)(hm:n<1000000000):
  aF prog 138 [.slice A n c] [] w (fun v S'=>(pM ys∧∃A' c',v=.tuple #[.slice A' (ys.take (n-4)).length c',.bool true]∧S'=[.row (.slice A' (ys.take (n-4)).length c') 5 1 (ys.take (n-4)).length (aD .u8 (ys.take (n-4)))])∨(¬pM ys∧v=.tuple #[.slice none 0 0,.bool false]∧S'=[])):=by
 subst hl;refine aJ func138 rfl ntmps138 rfl ⟨aE,.nil⟩ (fun n=>?_);simp only[aG];rcases Nat.lt_or_ge ys.length 4 with h|h
 ·refine gR;exact cY rfl rfl rfl (.nil _) (.inr ⟨fun e=>by have:=e.1;omega,rfl,rfl⟩)
 have hcl:ys.length≤c:=by obtain⟨_,_,e,q1,-⟩:=hr.h;injection e with _ _ e;omega
 obtain⟨m,hm2⟩:∃m,ys.length=m+4:=⟨ys.length-4,oo⟩;have hcg:=aSm hm2;have hmm:(ys.length:Int)-4=(m:Nat):=oo;have hm4:ys.length-4=m:=oo;have htl:(ys.take m).length=m:=by rw[List.length_take];omega
 have hsl:=aO4 (ys:=ys.take m) (fun x hx=>hu x (List.mem_of_mem_take hx));rw[hm4];refine aB;refine eY 13 _ rfl (v':=.int .i64 (m:Nat)) (by rw[hmm]) ?_;refine eY 4 _ rfl (v':=.int .i64 (m:Nat)) (by rw[hmm]) ?_;refine aAo 0 m hr oo fun hr0=>?_;rw[List.drop_zero,Nat.sub_zero]at hr0;refine aB;refine bU rfl rfl rfl (fun w hw=>bB7 _ _ m (ys.take m) w htl ⟨hr0.h.go hw (aC.nil _)⟩ (fun x hx=>hu x (List.mem_of_mem_take hx)) oo) ?_;refine aB;refine cG (X:=Nat) (fun i=>i≤4∧∀j,j<i→ys.getD (m+j) 0=((qE (ys.take m)/256^j%256:Nat):Int)) (fun i=>[(0,.slice A ys.length c),(4,.int .i64 m),(5,.int .u32 (qE (ys.take m):Nat)),(16,.int .i64 i)]) (fun _=>[]) (fun i=>4-i) 0 ⟨aE,fun j hj=>by omega⟩ ⟨rfl,rfl,rfl,rfl,trivial⟩ (.nil _) ?_;rintro i ⟨hi,hjs⟩;obtain⟨bA,oA,rfl,hA⟩:=hr.at_ (by omega:0<ys.length);have e8:(8*(i:Int)).toNat=8*i:=oo;have em:((m:Int)+i).toNat=m+i:=oo;have hby:=aIp (qE (ys.take m)) i;rw[← IntKind.wrap_u8',← e8]at hby;have hji:=hjs;refine aB
 ·rename_i hne;rw[em,hby]at hne;exact cY rfl rfl rfl (.nil _) (.inr ⟨fun e=>hne (hcg.1 e i oo),rfl,rfl⟩)
 ·rename_i hne;rw[em,hby]at hne;refine aR (i+1) ⟨oo,fun j hj=>?_⟩ (by show 4-(i+1)<4-i;omega) ⟨rfl,rfl,rfl,by simp[aI],trivial⟩ (.nil _);rcases Nat.lt_or_ge j i with h1|h1
  ·exact hjs j h1
  ·obtain rfl:j=i:=oo;exact Decidable.of_not_not hne
 ·exact cY rfl rfl rfl aA.au (.inl ⟨hcg.2 fun j hj=>hjs j oo,_,_,rfl,rfl⟩)
theorem wA(A:Option Addr)(c:Nat)(ys:List Int)(at_ size:Nat)(w:World)(hr:bP w (bB []) A ys.length c 1 (aD .u8 ys))(hu:dL ys)(hs:size≤4)(ha:at_+size≤ys.length)(hm:ys.length<1000000000):
  aF prog 143 [.slice A ys.length c,.int .i64 at_,.int .i64 size] [] w (fun v S'=>v=.int .i64 (dN ys at_ size:Nat)∧S'=[]):=by
 have hlt:=sB hu ha;have h4:256^size≤256^4:=Nat.pow_le_pow_right oo hs;refine aJ func143 rfl ntmps143 rfl ⟨aE,.nil⟩ (fun n=>?_);simp only[aG];refine bI;refine bU rfl rfl rfl (fun w hw=>aQi A c ys at_ size w ⟨hr.h.go hw (aC.nil _)⟩ hu oo ha hm) ?_;refine aB;exact aM rfl rfl (.nil _) ⟨rfl,rfl⟩
def gJ(W k:Nat):List (Int×Int):=(List.range k).map fun i=>(tX W i,tY W i)
theorem zK(W k:Nat):(gJ W k).length=k:=by simp[gJ]
theorem aY9(W k:Nat):gJ W (k+1)=gJ W k++[(tX W k,tY W k)]:=by simp[gJ,List.range_succ]
theorem aD5(W k i:Nat)(h:i<k):(gJ W k).getD i default=(tX W i,tY W i):=by simp[gJ,List.getD_eq_getElem?_getD,h]
theorem tXY{W x y:Nat}(h:x<bC W):tX W (y*bC W+x)=x∧tY W (y*bC W+x)=y:=by unfold tX tY;rw[Nat.add_comm,Nat.mul_comm,Nat.add_mul_mod_self_left,Nat.mod_eq_of_lt h,Nat.add_mul_div_left _ _ oo,Nat.div_eq_of_lt h,Nat.zero_add];exact⟨rfl,rfl⟩
def aC2(W H:Int)(z:List Int)(cell:Int):Int:=if vZ W H z≠0 then vZ W H z else if cell<1∨1000<cell then 1 else 0
instance (priority:=2000) (P:Program)(s t:TypeId)(x:Operand)(a:Int)(dd:TypeDesc)[hs:aN P s dd][ht:aN P t (.int .u32)]:PV P (.convert s t x) [.int .i32 a] (.int .u32 (qG a:Nat)) True:=⟨by
 rintro hc ρ ⟨dst,op',ty,pos,aft,gd⟩ rfl h w;have e:IntKind.u32.wrap a=(qG a:Nat):=by unfold qG;rw[IntKind.wrap_u32'];omega
 simp[execOp,pW h,convert,run_underlying hs.h,run_underlying ht.h,Conv.intToInt,e]⟩
theorem aS6(W H:Int)(A:Option Addr)(c:Nat)(z:List Int)(cell ox oy:Int)(w:World):
  aF prog 93 [.agg #[.int .i64 W,.int .i64 H,.slice A z.length c,.int .i64 cell,.int .i32 ox,.int .i32 oy]] [] w (fun v S'=>v=.int .i64 (aC2 W H z cell)∧S'=[]):=by
 refine aJ func93 rfl ntmps93 rfl ⟨aE,.nil⟩ (fun n=>?_);simp only[aG];unfold aC2;refine aB;refine bU rfl rfl rfl (fun w _=>aJ6 W H A c z w) ?_;refine aB
 ·exact aM rfl rfl (.nil _) ⟨by rw[if_pos oa],rfl⟩
 ·exact aM rfl rfl (.nil _) ⟨by rw[if_neg oa,if_pos oo],rfl⟩
 ·exact aM rfl rfl (.nil _) ⟨by rw[if_neg oa,if_pos oo],rfl⟩
 ·exact aM rfl rfl (.nil _) ⟨by rw[if_neg oa,if_neg oo],rfl⟩
theorem aB0(W H:Nat)(w:World)(hm:W≤256∧H≤256):
  aF prog 96 [.int .i64 W,.int .i64 H] [] w (fun v S'=>∃A' c',v=.slice A' (gJ W (nT W H)).length c'∧S'=[.row (.slice A' (gJ W (nT W H)).length c') 177 2 (gJ W (nT W H)).length (aO yG (gJ W (nT W H)))]):=by
 refine aJ func96 rfl ntmps96 rfl ⟨aE,.nil⟩ (fun n=>?_);simp only[aG];have hcW:=wD hm.1;have hcH:=wD hm.2;refine dH (e:=177) (size:=2) ?_;refine aB;refine bU rfl rfl rfl (fun w _=>xO H w oo) ?_;refine aB;refine cG (X:=Nat×Option Addr×Nat) (fun q=>q.1≤bC H) (fun q=>[(0,.int .i64 W),(5,.slice q.2.1 (gJ W (q.1*bC W)).length q.2.2),(9,.int .i64 (bC H:Nat)),(10,.int .i64 q.1)])
  (fun q=>[.row (.slice q.2.1 (gJ W (q.1*bC W)).length q.2.2) 177 2 (gJ W (q.1*bC W)).length (aO yG (gJ W (q.1*bC W)))]) (fun q=>bC H-q.1) (0,none,0) aE ⟨rfl,by simp[aI,gJ],rfl,rfl,trivial⟩ (by simp only[Nat.zero_mul];exact aA.refl _) ?_
 rintro⟨y,A1,c1⟩ hy;simp only at hy ⊢;rcases Nat.lt_or_ge y (bC H) with h|h
 ·refine gR;refine bU rfl rfl rfl (fun w _=>xO W w oo) ?_;refine aB;have hyW:(y+1)*bC W≤16*16:=Nat.mul_le_mul oo hcW;rw[Nat.add_mul,Nat.one_mul]at hyW;refine cG (X:=Nat×Option Addr×Nat) (fun q=>q.1≤bC W) (fun q=>[(0,.int .i64 W),(5,.slice q.2.1 (gJ W (y*bC W+q.1)).length q.2.2),(6,.int .i64 y),(9,.int .i64 (bC H:Nat)),(10,.int .i64 y),(14,.int .i64 (bC W:Nat)),(15,.int .i64 q.1)])
   (fun q=>[.row (.slice q.2.1 (gJ W (y*bC W+q.1)).length q.2.2) 177 2 (gJ W (y*bC W+q.1)).length (aO yG (gJ W (y*bC W+q.1)))]) (fun q=>bC W-q.1) (0,A1,c1) aE ⟨rfl,rfl,rfl,rfl,rfl,rfl,rfl,trivial⟩ (aA.refl _) ?_
  rintro⟨x,A2,c2⟩ hx;simp only at hx ⊢;have hpl:=zK W (y*bC W+x);rcases Nat.lt_or_ge x (bC W) with h2|h2
  ·have hps:=aY9 W (y*bC W+x);rw[(tXY h2).1,(tXY h2).2]at hps;refine aB;rename_i A3 c3;rw[← hps];exact aR (x+1,A3,c3) (by show x+1≤_;omega) (by show _-(x+1)<_-x;omega) ⟨rfl,rfl,rfl,rfl,rfl,rfl,by simp[aI],trivial⟩ aA.au
  ·obtain rfl:x=bC W:=oo;refine aB;exact aR (y+1,A2,c2) (by show y+1≤_;omega) (by show _-(y+1)<_-y;omega) ⟨rfl,by simp only[Nat.add_mul,Nat.one_mul];rfl,rfl,by simp[aI],trivial⟩ (by simp only[Nat.add_mul,Nat.one_mul];exact aA.au)
 ·obtain rfl:y=bC H:=oo;refine aB;have e:nT W H=bC H*bC W:=Nat.mul_comm _ _;rw[e];exact aM rfl rfl (aA.refl _) ⟨_,_,rfl,rfl⟩
theorem aKj(W H:Nat)(w:World)(hm:W≤256∧H≤256):
  aF prog 95 [.int .i64 W,.int .i64 H] [] w (fun v S'=>v=.int .i64 (fV W H:Nat)∧S'=[]):=by
 refine aJ func95 rfl ntmps95 rfl ⟨aE,.nil⟩ (fun n=>?_);simp only[aG];have hn:=wM hm;have hcW:=wD hm.1;have hcH:=wD hm.2;have e:(6*(bC W:Int))*(bC H:Int)=((6*nT W H:Nat):Int):=by unfold nT;push_cast;rw[Int.mul_assoc]
 refine aB;refine bU rfl rfl rfl (fun w _=>xO W w oo) ?_;refine aB;refine bU rfl rfl rfl (fun w _=>xO H w oo) ?_;refine aB;refine aM rfl rfl (.nil _) ⟨?_,rfl⟩;rw[e];unfold fV;congr 1;omega
theorem aUh(W H cell:Nat)(A:Option Addr)(c m:Nat)(ox oy:Int)(w:World)(hm:W≤256∧H≤256∧cell≤1000)(hox:bG .i32 ox)(hoy:bG .i32 oy):
  aF prog 94 [.agg #[.int .i64 W,.int .i64 H,.slice A m c,.int .i64 cell,.int .i32 ox,.int .i32 oy]] [] w (fun v S'=>∃A' c',v=.slice A' (tM W H cell ox oy).length c'∧S'=[.row (.slice A' (tM W H cell ox oy).length c') 5 1 (tM W H cell ox oy).length (aD .u8 (tM W H cell ox oy))]):=by
 refine aJ func94 rfl ntmps94 rfl ⟨aE,.nil⟩ (fun n=>?_);simp only[aG];refine aB;refine lf rfl rfl rfl (S:=[]) (fun w hw ho=>vW none 0 [] 1296978516 4 w ⟨Ro.nil _ _ _⟩ od od od) ?_;rintro v S' ⟨A1,c1,rfl,rfl⟩;refine aB;refine dM _ [false,true,true,true,true,false,true,true,true,true,false,false] [0,5,10,11] (aA.refl _) rfl od bD ?_;refine gR;refine lf rfl rfl rfl (S:=[]) (fun w hw ho=>vW A1 c1 (cX 1296978516 4) W 2 w ⟨Ro.row hw (aC.nil _) (by refine cF)⟩ oo od (by rw[eL];decide)) ?_;rintro v S' ⟨A2,c2,rfl,rfl⟩;have hl2:=eL W 2;have hl3:=eL H 2;have hl4:=eL 1296978516 4;refine gR;refine lf rfl rfl rfl (S:=[]) (fun w hw ho=>vW A2 c2 (cX 1296978516 4++cX W 2) H 2 w ⟨Ro.row hw (aC.nil _) (by refine cF)⟩ oo od (by rw[List.length_append];omega)) ?_;rintro v S' ⟨A3,c3,rfl,rfl⟩;refine gR;refine lf rfl rfl rfl (S:=[]) (fun w hw ho=>vW A3 c3 (cX 1296978516 4++cX W 2++cX H 2) cell 2 w ⟨Ro.row hw (aC.nil _) (by refine cF)⟩ oo od (by simp only[List.length_append];omega)) ?_;rintro v S' ⟨A4,c4,rfl,rfl⟩;have hl5:=eL cell 2;have hl6:=eL (qG ox) 4;refine aB;have hu1:=zW ox;have hu2:=zW oy;refine dM _ [false,true,true,true,true,false,true,true,true,true,false,false] [0,5,10,11] (aA.refl _) rfl od bD ?_;refine gR;refine lf rfl rfl rfl (S:=[]) (fun w hw ho=>vW A4 c4 (cX 1296978516 4++cX W 2++cX H 2++cX cell 2) (qG ox) 4 w ⟨Ro.row hw (aC.nil _) (by refine cF)⟩ (by have:=zW ox;omega) od (by simp only[List.length_append];omega)) ?_;rintro v S' ⟨A5,c5,rfl,rfl⟩;refine gR;refine lf rfl rfl rfl (S:=[]) (fun w hw ho=>vW A5 c5 (cX 1296978516 4++cX W 2++cX H 2++cX cell 2++cX (qG ox) 4) (qG oy) 4 w ⟨Ro.row hw (aC.nil _) (by refine cF)⟩ (by have:=zW oy;omega) od (by simp only[List.length_append];omega)) ?_;rintro v S' ⟨A6,c6,rfl,rfl⟩;refine gR;exact aM rfl rfl (.cons (.here _ _) (.nil _)) ⟨_,_,rfl,rfl⟩
theorem aDo{W H i:Nat}(hm:W≤256∧H≤256)(hi:i<nT W H):bG .i64 (tX W i)∧bG .i64 (tY W i):=by obtain⟨h1,h2⟩:=aHn hi;have:=wD hm.1;have:=wD hm.2;unfold tX tY;generalize i%bC W=x at *;generalize i/bC W=y at *;simp only[bG];omega
theorem aS5{W H cell:Nat}{z:List Int}(hW:2≤W∧W≤256∧2≤H∧H≤256∧1≤cell∧cell≤1000)(hz:z.length=W*H):aC2 W H z cell=0:=by
 have h:vZ W H z=0:=by unfold vZ;rw[if_neg oo,if_pos (by rw[hz];push_cast;rfl)]
 unfold aC2;rw[h,if_neg aE,if_neg oo]
theorem bBv{W H i:Nat}{z:List Int}(hi:i<nT W H)(hz:z.length=W*H):vD (dX W H i:Nat) (nX W H i:Nat) (jM W H z i)=some (qC (dX W H i) (jM W H z i))∧zL (dX W H i:Nat) (nX W H i:Nat) (jM W H z i)=0:=by have hb:=aB6 hi;have h:=aYj (a:=(dX W H i:Nat)) (b:=(nX W H i:Nat)) (z:=jM W H z i) ⟨(aH0 _ _).2 oo,by rw[aC9 hz];push_cast;rfl⟩;rw[Int.toNat_natCast]at h;exact h
theorem bBw(A:Option Addr)(c W H:Nat)(z:List Int)(i:Nat)(w:World)(hr:bP w (bB []) A (qC (dX W H i) (jM W H z i)).length c 1 (aD .u8 (qC (dX W H i) (jM W H z i))))(hm:(qC (dX W H i) (jM W H z i)).length<1000000000):
  aF prog 87 [.slice A (qC (dX W H i) (jM W H z i)).length c] [] w (fun v S'=>∃A' c',v=.slice A' (pH W H z i).length c'∧S'=[.row (.slice A' (pH W H z i).length c') 5 1 (pH W H z i).length (aD .u8 (pH W H z i))]):=aJl A c _ w hr (aMz _ _) hm
theorem aSj(W H cell:Nat)(A:Option Addr)(c:Nat)(z:List Int)(ox oy:Int)(w:World)(hr:bP w (bB []) A z.length c 1 (aD .i16 z))(hW:2≤W∧W≤256∧2≤H∧H≤256∧1≤cell∧cell≤1000)(hz:z.length=W*H)(hin:fD z)(hox:bG .i32 ox)(hoy:bG .i32 oy):
  aF prog 52 [.agg #[.int .i64 W,.int .i64 H,.slice A z.length c,.int .i64 cell,.int .i32 ox,.int .i32 oy]] [] w (fun v S'=>∃A' c',v=.tuple #[.slice A' (fK W H cell ox oy z).length c',.int .i64 0]∧S'=[.row (.slice A' (fK W H cell ox oy z).length c') 5 1 (fK W H cell ox oy z).length (aD .u8 (fK W H cell ox oy z))]):=by
 have hchk:=aS5 hW hz;have hn:=wM (W:=W) (H:=H) oo;have hhn:fV W H≤2000:=by unfold fV;omega
 have hpl:=zK W (nT W H);refine aJ func52 rfl ntmps52 rfl ⟨aE,.nil⟩ (fun n=>?_);simp only[aG];refine aB;refine bU rfl rfl rfl (fun w _=>aS6 W H A c z cell ox oy w) ?_;rw[hchk];refine aB;rename_i b1;refine lf rfl rfl rfl (S:=[]) (fun w hw ho=>aUh W H cell A c z.length ox oy w oo hox hoy) ?_;rintro v S' ⟨Ah,ch,rfl,rfl⟩;refine aB;refine bU rfl rfl rfl (fun w _=>aKj W H w oo) ?_;refine aB;refine lf rfl rfl rfl (S:=[]) (fun w hw ho=>aB0 W H w oo) ?_;rintro v S' ⟨Ap,cp,rfl,rfl⟩;refine dH (e:=5) (size:=1) ?_;refine aB;refine cG (X:=Nat×(Option Addr×Nat)×(Option Addr×Nat)) (fun q=>q.1≤nT W H)
  (fun q=>[(1,.pointer (some ⟨b1,0,none⟩)),(5,.slice q.2.1.1 (lG W H cell ox oy z q.1).length q.2.1.2),(6,.slice q.2.2.1 (jF W H z q.1).length q.2.2.2),(7,.int .i64 (fV W H:Nat)),(36,.slice Ap (gJ W (nT W H)).length cp),(37,.int .i64 (gJ W (nT W H)).length),(38,.int .i64 q.1)])
  (fun q=>[.row (.slice q.2.1.1 (lG W H cell ox oy z q.1).length q.2.1.2) 5 1 (lG W H cell ox oy z q.1).length (aD .u8 (lG W H cell ox oy z q.1)),.row (.slice q.2.2.1 (jF W H z q.1).length q.2.2.2) 5 1 (jF W H z q.1).length (aD .u8 (jF W H z q.1)),
   .row (.slice Ap (gJ W (nT W H)).length cp) 177 2 (gJ W (nT W H)).length (aO yG (gJ W (nT W H))),.blk b1 43 [.int .i64 W,.int .i64 H,.slice A z.length c,.int .i64 cell,.int .i32 ox,.int .i32 oy]]) (fun q=>nT W H-q.1) (0,(Ah,ch),(none,0)) aE ⟨rfl,rfl,rfl,rfl,rfl,rfl,rfl,trivial⟩ ?_ ?_
 ·exact(aA.cons (.there _ (.there _ (.here _ _))) (aA.cons (.here _ _) (aA.cons (.here _ _) (aA.cons (.here _ _) (aA.nil _)))))
 rintro⟨i,⟨Ah,ch⟩,⟨Ab,cb⟩⟩ hi;simp only at hi ⊢;have hdl:=aCa W H cell ox oy z i;have hbl:=aBr hz i;rcases Nat.lt_or_ge i (nT W H) with h|h
 ·have hpg:=aD5 W _ i h;have htl:=aHm (i:=i) hz;obtain⟨hX,hY⟩:=aDo oo h;obtain⟨hp1,hp2⟩:=bBv h hz;have hcl:=aC8 (i:=i) hz;have hci:=aKn hin W H i;have hrl:=aMy (dX W H i) _ hcl;have hdu:=aCb W H cell ox oy z i;refine aB;simp only[hpg];refine bU rfl rfl rfl (fun w _=>aAa W H (tX W i) (tY W i) w hX hY oo) ?_;refine aB;refine lf rfl rfl rfl (S:=[]) (fun w hw ho=>aSo W H A c z (tX W i) (tY W i) w ⟨hr.h.go hw (aC.nil _)⟩ hX hY oo hz) ?_;rintro v S' ⟨A2,c2,rfl,rfl⟩;refine aB;refine lf rfl rfl rfl (S:=[]) (fun w hw ho=>aYi A2 c2 (jM W H z i) (dX W H i:Nat) (nX W H i:Nat) w ⟨Ro.row hw (aC.nil _) (by refine cF)⟩ hci oo) ?_;rintro v S' ⟨A3,c3,rfl,rfl⟩;rw[hp1,hp2,Option.getD_some];refine aB;refine lf rfl rfl rfl (S:=[]) (fun w hw ho=>bBw A3 c3 W H z i w ⟨Ro.row hw (aC.nil _) (by refine cF)⟩ oo) ?_;rintro v S' ⟨A4,c4,rfl,rfl⟩;generalize htb:pH W H z i=tb at *;refine aB;refine eY 75 _ rfl (v':=.int .u64 (fV W H+(jF W H z i).length:Nat)) (by push_cast;rfl) ?_;refine lf rfl rfl rfl (S:=[]) (fun w hw ho=>vW Ah ch (lG W H cell ox oy z i) (fV W H+(jF W H z i).length) 4 w ⟨Ro.row hw (aC.nil _) (by refine cF)⟩ (by unfold fV;omega) oo oo) ?_;rintro v S' ⟨A5,c5,rfl,rfl⟩;have hl5:=eL (fV W H+(jF W H z i).length) 4;refine aB;refine lf rfl rfl rfl (S:=[]) (fun w hw ho=>vW A5 c5 (lG W H cell ox oy z i++cX (fV W H+(jF W H z i).length) 4) tb.length 2 w ⟨Ro.row hw (aC.nil _) (by refine cF)⟩ oo oo (by rw[List.length_append];omega)) ?_;rintro v S' ⟨A6,c6,rfl,rfl⟩;refine aB;rename_i A7 c7;subst htb;exact aR (i+1,(A6,c6),(A7,c7)) (by show i+1≤_;omega) (by show _-(i+1)<_-i;omega) ⟨rfl,rfl,rfl,rfl,rfl,rfl,by simp[aI],trivial⟩ (by simp only[lG,jF];exact aA.au)
 ·obtain rfl:i=nT W H:=oo;have hdu:=aCb W H cell ox oy z (nT W H);have hcl:=yW (lG W H cell ox oy z (nT W H));refine aB;refine lf rfl rfl rfl (S:=[]) (fun w hw ho=>aJl Ah ch (lG W H cell ox oy z (nT W H)) w ⟨Ro.row hw (aC.nil _) (by refine cF)⟩ hdu oo) ?_;rintro v S' ⟨A4,c4,rfl,rfl⟩;refine aB;exact cY rfl rfl rfl (.cons (.here _ _) (.nil _)) ⟨_,_,rfl,rfl⟩
def jN(x:Nat):Int:=IntKind.i32.wrap (x:Int)
def dS(ys:List Int)(k:Nat):List Int:=(List.range k).map fun i=>((fA ys i:Nat):Int)
def dT(ys:List Int)(k:Nat):List Int:=(List.range k).map fun i=>((kR ys i:Nat):Int)
theorem aEh(ys:List Int)(k:Nat):(dS ys k).length=k:=by simp[dS]
theorem aHi(ys:List Int)(k:Nat):(dT ys k).length=k:=by simp[dT]
theorem aQ3(ys:List Int)(k:Nat):dS ys (k+1)=dS ys k++[((fA ys k:Nat):Int)]:=by simp[dS,List.range_succ]
theorem bBd(ys:List Int)(k:Nat):dT ys (k+1)=dT ys k++[((kR ys k:Nat):Int)]:=by simp[dT,List.range_succ]
theorem aQ2(ys:List Int)(k i:Nat)(h:i<k):(dS ys k).getD i 0=((fA ys i:Nat):Int):=by simp[dS,List.getD_eq_getElem?_getD,h]
theorem bBc(ys:List Int)(k i:Nat)(h:i<k):(dT ys k).getD i 0=((kR ys i:Nat):Int):=by simp[dT,List.getD_eq_getElem?_getD,h]
def aPk(ys:List Int)(v:Value)(S':List HE):Prop :=
 (lI ys=0∧∃A1 c1 A2 c2,v=.tuple #[.agg #[.int .i64 (wY ys:Nat),.int .i64 (hY ys:Nat),.slice none 0 0,.int .i64 (mR ys:Nat),.int .i32 (jN (dN ys 10 4)),.int .i32 (jN (dN ys 14 4)),.slice A1 (dS ys (nY ys)).length c1,.slice A2 (dT ys (nY ys)).length c2],.int .i64 0] ∧
  S'=[.row (.slice A1 (dS ys (nY ys)).length c1) 3 1 (dS ys (nY ys)).length (aD .i64 (dS ys (nY ys))),.row (.slice A2 (dT ys (nY ys)).length c2) 3 1 (dT ys (nY ys)).length (aD .i64 (dT ys (nY ys)))]) ∨
 (lI ys≠0∧v=.tuple #[.agg #[.int .i64 0,.int .i64 0,.slice none 0 0,.int .i64 0,.int .i32 0,.int .i32 0,.slice none 0 0,.slice none 0 0],.int .i64 (lI ys)]∧S'=[])
theorem aM7(A:Option Addr)(c:Nat)(ys:List Int)(w:World)(hr:bP w (bB []) A ys.length c 1 (aD .u8 ys))(hu:dL ys)(hm:ys.length<100000000):
  aF prog 102 [.slice A ys.length c] [] w (aPk ys):=by
 refine aJ func102 rfl ntmps102 rfl ⟨aE,.nil⟩ (fun n=>?_);simp only[aG];have hcl:ys.length≤c:=by obtain⟨_,_,e,q1,-⟩:=hr.h;injection e with _ _ e;omega
 rcases Nat.lt_or_ge ys.length 18 with h18|h18
 ·have hoc:lI ys=5:=if_pos h18;refine aB;refine bK;exact .inr ⟨oo,by rw[hoc];rfl,rfl⟩
 have hl0:=sB hu (a:=0) (n:=4) oo;have hl4:=sB hu (a:=4) (n:=2) oo;have hl6:=sB hu (a:=6) (n:=2) oo;have hl8:=sB hu (a:=8) (n:=2) oo;have hl10:=sB hu (a:=10) (n:=4) oo;have hl14:=sB hu (a:=14) (n:=4) oo;refine aB;refine bU rfl rfl rfl (fun w hw=>wA A c ys 0 4 w ⟨hr.h.go hw (aC.nil _)⟩ hu oo oo oo) ?_;by_cases hmg:dN ys 0 4=1296978516
 rotate_left
 ·have hoc:lI ys=3:=by unfold lI;rw[if_neg oo,if_pos hmg]
  refine aB;refine bK;exact .inr ⟨oo,by rw[hoc];rfl,rfl⟩
 rw[hmg];refine aB;refine bU rfl rfl rfl (fun w hw=>wA A c ys 4 2 w ⟨hr.h.go hw (aC.nil _)⟩ hu oo oo oo) ?_;refine aB;refine bU rfl rfl rfl (fun w hw=>wA A c ys 6 2 w ⟨hr.h.go hw (aC.nil _)⟩ hu oo oo oo) ?_;refine aB;refine bU rfl rfl rfl (fun w hw=>wA A c ys 8 2 w ⟨hr.h.go hw (aC.nil _)⟩ hu oo oo oo) ?_;refine aB;refine bU rfl rfl rfl (fun w hw=>wA A c ys 10 4 w ⟨hr.h.go hw (aC.nil _)⟩ hu oo oo oo) ?_;refine aB;refine bU rfl rfl rfl (fun w hw=>wA A c ys 14 4 w ⟨hr.h.go hw (aC.nil _)⟩ hu oo oo oo) ?_;have ew:dN ys 4 2=wY ys:=rfl;have eh:dN ys 6 2=hY ys:=rfl;have ec:dN ys 8 2=mR ys:=rfl;rw[ew]at hl4;rw[eh]at hl6;rw[ec]at hl8;rw[ew,eh,ec];generalize hox:dN ys 10 4=ox at *;generalize hoy:dN ys 14 4=oy at *;by_cases hrg:qB ys
 rotate_left
 ·have hoc:lI ys=2:=by unfold lI;rw[if_neg oo,if_neg oo,if_pos hrg]
  unfold qB at hrg;generalize wY ys=W at *;generalize hY ys=H at *;generalize mR ys=cell at *;refine aB;all_goals first
   | (refine bK;exact .inr ⟨oo,by rw[hoc];rfl,rfl⟩)
   | (exfalso;omega)
 have hrg0:=hrg;unfold qB at hrg;have hn:nY ys≤256:=wM oo;have hhn:fV (wY ys) (hY ys)=22+6*nY ys:=rfl;have hatd:∀i,fA ys i=match i with|0=>fV (wY ys) (hY ys)|i+1=>fA ys i+kR ys i:=fun i=>by cases i<;>rfl
 have hocd:lI ys=if ys.length<fV (wY ys) (hY ys)then 5 else if ¬pM (ys.take (fV (wY ys) (hY ys)))then 4 else if ¬(∀i,i<nY ys→uS ys i=fA ys i)then 2 else if fA ys (nY ys)≠ys.length then 5 else 0:=by
  conv=>lhs;unfold lI
  rw[if_neg oo,if_neg oo,if_neg (fun e=>e hrg0)]
 have e1:IntKind.i32.wrap (ox:Int)=jN ox:=rfl;have e2:IntKind.i32.wrap (oy:Int)=jN oy:=rfl;generalize hn0:fV (wY ys) (hY ys)=hd at *;refine aB;rw[e1,e2];refine bU rfl rfl rfl (fun w _=>aKj (wY ys) (hY ys) w oo) ?_;rw[hn0];rcases Nat.lt_or_ge ys.length hd with hlt|hge
 ·have hoc:lI ys=5:=by rw[hocd,if_pos hlt]
  refine aB;refine bK;exact .inr ⟨oo,by rw[hoc];rfl,rfl⟩
 rw[if_neg oo]at hocd;have htl:(ys.take hd).length=hd:=by rw[List.length_take];omega
 have htu:dL (ys.take hd):=fun x hx=>hu x (List.mem_of_mem_take hx);refine aAo 0 hd hr oo fun hr0=>?_;rw[List.drop_zero,Nat.sub_zero]at hr0;refine aB;refine lf rfl rfl rfl (S:=[]) (fun w hw ho=>aJk _ _ hd (ys.take hd) w htl ⟨hr0.h.go hw (aC.nil _)⟩ htu oo) ?_;rintro v S' hcg;rcases hcg with⟨hok,Ag,cg,rfl,rfl⟩ | ⟨hno,rfl,rfl⟩
 rotate_left
 ·have hoc:lI ys=4:=by rw[hocd,if_pos hno]
  refine aB;refine bK;exact .inr ⟨oo,by rw[hoc];rfl,rfl⟩
 rw[if_neg (fun e=>e hok)]at hocd;refine aB;rename_i b2 _ b4 _ _ _ _ _ _ _;refine lf rfl rfl rfl (S:=[]) (fun w hw ho=>aB0 (wY ys) (hY ys) w oo) ?_;rintro v S' ⟨Ap,cp,rfl,rfl⟩;have hpl:=zK (wY ys) (nY ys);have hnn:nT (wY ys) (hY ys)=nY ys:=rfl;rw[hnn];refine dH (e:=3) (size:=1) ?_;refine dH (e:=3) (size:=1) ?_;refine aB;refine eY 94 _ rfl (v':=.int .i64 (nY ys:Nat)) (by rw[hpl]) ?_;refine eY 10 _ rfl (v':=.int .i64 (fA ys 0:Nat)) (by rw[fA,hn0]) ?_;refine cG (X:=Nat×(Option Addr×Nat)×(Option Addr×Nat)) (fun q=>q.1≤nY ys∧∀j,j<q.1→uS ys j=fA ys j)
  (fun q=>[(0,.slice A ys.length c),(2,.pointer (some ⟨b2,0,none⟩)),(4,.pointer (some ⟨b4,0,none⟩)),(10,.int .i64 (fA ys q.1:Nat)),(94,.int .i64 (nY ys:Nat)),(95,.int .i64 q.1)])
  (fun q=>[.blk b4 187 [.int .i64 (wY ys:Nat),.int .i64 (hY ys:Nat),.slice none 0 0,.int .i64 (mR ys:Nat),.int .i32 (jN ox),.int .i32 (jN oy),.slice q.2.1.1 (dS ys q.1).length q.2.1.2,.slice q.2.2.1 (dT ys q.1).length q.2.2.2],.row (.slice q.2.1.1 (dS ys q.1).length q.2.1.2) 3 1 (dS ys q.1).length (aD .i64 (dS ys q.1)),.row (.slice q.2.2.1 (dT ys q.1).length q.2.2.2) 3 1 (dT ys q.1).length (aD .i64 (dT ys q.1)),.blk b2 187 [.int .i64 0,.int .i64 0,.slice none 0 0,.int .i64 0,.int .i32 0,.int .i32 0,.slice none 0 0,.slice none 0 0]]) (fun q=>nY ys-q.1) (0,(none,0),(none,0)) ⟨aE,fun j hj=>by omega⟩ ?_ ?_ ?_
 ·exact⟨rfl,rfl,rfl,rfl,rfl,rfl,trivial⟩
 ·exact(aA.cons (.there _ (.there _ (.there _ (.there _ (.here _ _))))) (aA.cons (.here _ _) (aA.cons (.here _ _) (aA.cons (.there _ (.there _ (.here _ _))) (aA.nil _)))))
 rintro⟨i,⟨A1,c1⟩,⟨A2,c2⟩⟩ ⟨hi,hfr⟩;simp only at hi hfr ⊢;have hal:=aEh ys i;have hsl:=aHi ys i;rcases Nat.lt_or_ge i (nY ys) with h|h
 ·have hlf:=sB hu (a:=18+6*i) (n:=4) oo;have hls:=sB hu (a:=18+6*i+4) (n:=2) oo;refine aB;refine eY 101 _ rfl (v':=.int .i64 (18+6*i:Nat)) (by push_cast;rfl) ?_;refine bU rfl rfl rfl (fun w hw=>wA A c ys (18+6*i) 4 w ⟨hr.h.go hw (aC.nil _)⟩ hu oo oo oo) ?_;have ef:dN ys (18+6*i) 4=uS ys i:=rfl;rw[ef]at hlf ⊢;refine aB;refine eY 107 _ rfl (v':=.int .i64 (18+6*i+4:Nat)) (by push_cast;rfl) ?_;refine bU rfl rfl rfl (fun w hw=>wA A c ys (18+6*i+4) 2 w ⟨hr.h.go hw (aC.nil _)⟩ hu oo oo oo) ?_;have es:dN ys (18+6*i+4) 2=kR ys i:=rfl;rw[es]at hls ⊢;by_cases hfe:uS ys i=fA ys i
  rotate_left
  ·have hoc:lI ys=2:=by rw[hocd,if_pos (fun e=>hfe (e i h))]
   refine aB;refine bK;exact .inr ⟨oo,by rw[hoc];rfl,rfl⟩
  have hps:=aQ3 ys i;have hpz:=bBd ys i;have hnx:fA ys (i+1)=fA ys i+kR ys i:=rfl;rw[hfe];rw[hfe]at hlf;have hbig:fA ys i≤4294967296:=oo;refine xA;refine dM [.blk b4 187 [.int .i64 (wY ys:Nat),.int .i64 (hY ys:Nat),.slice none 0 0,.int .i64 (mR ys:Nat),.int .i32 (jN ox),.int .i32 (jN oy),.slice A1 (dS ys i).length c1,.slice A2 (dT ys i).length c2]] [true,true,true,false,false,true,true,false,false,false,true,false,false,false] [3,4,7,8,9,11,12,13] aA.au rfl od bD ?_;refine gR;all_goals first
   | (rename_i A3 c3 A4 c4;exact aR (i+1,(A3,c3),(A4,c4)) ⟨by show i+1≤_;omega,fun j hj=>by
     rcases Nat.lt_or_ge j i with h1|h1
     ·exact hfr j h1
     ·rw[show j=i by omega];exact hfe⟩ (by show _-(i+1)<_-i;omega) ⟨rfl,rfl,rfl,by simp only[hnx];rfl,rfl,by simp[aI],trivial⟩ (by simp only[hps,hpz];exact aA.au))
   | (rename_i A3 c3 _ A4 c4;exact aR (i+1,(A3,c3),(A4,c4)) ⟨by show i+1≤_;omega,fun j hj=>by
     rcases Nat.lt_or_ge j i with h1|h1
     ·exact hfr j h1
     ·rw[show j=i by omega];exact hfe⟩ (by show _-(i+1)<_-i;omega) ⟨rfl,rfl,rfl,by simp only[hnx];rfl,rfl,by simp[aI],trivial⟩ (by simp only[hps,hpz];exact aA.au))
 ·obtain rfl:i=nY ys:=oo;have hfr2:∀j,j<nY ys→uS ys j=fA ys j:=hfr;rw[if_neg (fun e=>e hfr2)]at hocd;by_cases hend:fA ys (nY ys)=ys.length
  ·rw[if_neg (fun e=>e hend)]at hocd;refine gR;refine eC (.cons (.there _ (.here _ _)) (.cons (.there _ (.here _ _)) (.nil _))) ?_;refine cZ
   trace_state
   refine .inl ⟨hocd,_,_,_,_,?_,rfl⟩;rw[hox,hoy];rfl
  ·rw[if_pos hend]at hocd;refine gR;refine bK;exact .inr ⟨oo,by rw[hocd];rfl,rfl⟩
def nH(ys:List Int)(i:Nat)(zs:List Int):Prop:=zs.length=dX (wY ys) (hY ys) i*nX (wY ys) (hY ys) i∧fD zs∧nS ys i=kI (qC (dX (wY ys) (hY ys) i) zs)
def aBk(ys:List Int)(i:Nat)(code:Int):Prop:=(code=4∧¬pM (nS ys i))∨(pM (nS ys i)∧((code=3∧¬aA2 (dX (wY ys) (hY ys) i*nX (wY ys) (hY ys) i) ((nS ys i).take ((nS ys i).length-4)))∨(code=2∧aA2 (dX (wY ys) (hY ys) i*nX (wY ys) (hY ys) i) ((nS ys i).take ((nS ys i).length-4)))))
theorem aBk.ne{ys:List Int}{i:Nat}{code:Int}(h:aBk ys i code):code≠0:=by rcases h with⟨rfl,-⟩ | ⟨-,⟨rfl,-⟩ | ⟨rfl,-⟩⟩<;>decide
def aPm(ys:List Int)(i:Nat)(v:Value)(S':List HE):Prop:=∃(zs:List Int) (A:Option Addr) (c:Nat) (code:Int) (T:List HE),v=.tuple #[.slice A zs.length c,.int .i64 code]∧S'=.row (.slice A zs.length c) 95 1 zs.length (aD .i16 zs)::T∧((code=0∧nH ys i zs)∨(aBk ys i code∧zs=[]∧∀z,¬nH ys i z))
abbrev aSs(ys:List Int)(A1:Option Addr)(c1:Nat)(A2:Option Addr)(c2:Nat):Value:=.agg #[.int .i64 (wY ys:Nat),.int .i64 (hY ys:Nat),.slice none 0 0,.int .i64 (mR ys:Nat),.int .i32 (jN (dN ys 10 4)),.int .i32 (jN (dN ys 14 4)),.slice A1 (dS ys (nY ys)).length c1,.slice A2 (dT ys (nY ys)).length c2]
theorem aJi(ys:List Int):(kI ys).take ((kI ys).length-4)=ys:=by rw[yW,Nat.add_sub_cancel];unfold kI;rw[List.take_left]
theorem aJn(A:Option Addr)(c:Nat)(ys:List Int)(A1 A2:Option Addr)(c1 c2:Nat)(i:Nat)(w:World)(hr:bP w (bB []) A ys.length c 1 (aD .u8 ys))(h1:bP w (bB []) A1 (dS ys (nY ys)).length c1 1 (aD .i64 (dS ys (nY ys))))(h2:bP w (bB []) A2 (dT ys (nY ys)).length c2 1 (aD .i64 (dT ys (nY ys))))(hu:dL ys)(hm:ys.length<100000000)(hO:xH ys)(hi:i<nY ys):
  aF prog 141 [.slice A ys.length c,aSs ys A1 c1 A2 c2,.int .i64 i] [] w (aPm ys i):=by
 have hal:=aEh ys (nY ys);have hsl:=aHi ys (nY ys);have hrg:=hO.rng;have hin:=hO.in_ hi;have hatg:=aQ2 ys _ i hi;have hszg:=bBc ys _ i hi;unfold qB at hrg;have hn:nY ys≤256:=wM oo;have hcl:ys.length≤c:=by obtain⟨_,_,e,q1,-⟩:=hr.h;injection e with _ _ e;omega
 have hpg:=aD5 (wY ys) (nT (wY ys) (hY ys)) i hi;have hpl:=zK (wY ys) (nT (wY ys) (hY ys));have hi2:i<nT (wY ys) (hY ys):=hi;have hbx:=aB6 (W:=wY ys) (H:=hY ys) hi;obtain⟨hX,hY'⟩:=aDo (W:=wY ys) (H:=hY ys) (i:=i) oo hi;refine aJ func141 rfl ntmps141 rfl ⟨aE,.nil⟩ (fun n=>?_);simp only[aG];refine aB;refine aAc _ (0::1::2::3::4::5::6::7::8::9::10::11::12::13::14::15::16::17::18::19::20::21::22::23::24::25::26::27::28::29::[]) (aA.refl _) bD od bD bD bD ?_;intro _;refine xB;refine lf rfl rfl rfl (S:=[]) (fun w hw ho=>aB0 (wY ys) (hY ys) w oo) ?_;rintro v S' ⟨Ap,cp,rfl,rfl⟩;refine xB;refine xB;simp only[hpg];refine bU rfl rfl rfl (fun w _=>aAa (wY ys) (hY ys) (tX (wY ys) i) (tY (wY ys) i) w hX hY' oo) ?_;obtain⟨b1,o1,rfl,hA1⟩:=h1.at_ (by omega:0<(dS ys (nY ys)).length);obtain⟨b2,o2,rfl,hA2⟩:=h2.at_ (by omega:0<(dT ys (nY ys)).length);refine xB;refine aAc _ (0::1::2::3::4::5::6::7::8::9::10::11::12::13::14::15::16::17::18::19::20::21::22::23::[]) (aA.refl _) bD od bD bD bD ?_;intro _;refine xB;refine eY 55 _ rfl (v':=.int .i64 (fA ys i:Nat)) (by rw[hatg]) ?_;refine eY 66 _ rfl (v':=.int .i64 (fA ys i+kR ys i:Nat)) (by rw[hatg,hszg];push_cast;rfl) ?_;refine aAo (fA ys i) (fA ys i+kR ys i) hr oo fun hr0=>?_;rw[Nat.add_sub_cancel_left]at hr0;refine xB;rw[Nat.add_sub_cancel_left];have hgl:=aNe hin;have hgu:=aNf hu (fA ys i) (kR ys i);refine lf rfl rfl rfl (S:=[]) (fun w hw ho=>aJk _ _ (kR ys i) (nS ys i) w hgl ⟨hr0.h.go hw (aC.nil _)⟩ hgu oo) ?_;rintro v S' hcg;have hgl2:(nS ys i).length=kR ys i:=hgl;rcases hcg with⟨hok,Ag,cg,rfl,rfl⟩ | ⟨hno,rfl,rfl⟩
 rotate_left
 ·refine xB;refine dH (e:=95) (size:=1) ?_;exact cY rfl rfl rfl (.cons (.here _ _) (.nil _)) ⟨[],none,0,4,[],rfl,rfl,.inr ⟨.inl ⟨rfl,hno⟩,rfl,fun z hz=>hno (by rw[hz.2.2];exact aJh _)⟩⟩
 have hbu:dL ((nS ys i).take (kR ys i-4)):=fun x hx=>hgu x (List.mem_of_mem_take hx);have hbl:((nS ys i).take (kR ys i-4)).length≤kR ys i:=by rw[List.length_take];omega
 have hsl2:=sB hu (a:=18+6*i+4) (n:=2) (by have:=hO.head;unfold fV at this;omega);have hsz2:kR ys i<65536:=hsl2;have heq:=aSl hok;rw[hgl2]at heq;have hnone:∀z,nH ys i z→dJ (eZ (dZ z (dX (wY ys) (hY ys) i)))=(nS ys i).take (kR ys i-4):=by intro z hz;have h3:=aJi (qC (dX (wY ys) (hY ys) i) z);rw[← hz.2.2,hgl2]at h3;exact h3.symm
 refine xB;refine lf rfl rfl rfl (S:=[]) (fun w hw ho=>aTt Ag cg ((nS ys i).take (kR ys i-4)) (dX (wY ys) (hY ys) i) (nX (wY ys) (hY ys) i) w ⟨Ro.row hw (aC.nil _) (by refine cF)⟩ hbu oo oo) ?_;rintro v S' ⟨zs,Az,cz,code,T,rfl,rfl,hz⟩;refine jP (H':=[.row (.slice Az zs.length cz) 95 1 zs.length (aD .i16 zs)]) (.cons (.here _ _) (.nil _)) ?_;refine gR;refine cY rfl rfl rfl (aA.refl _) ⟨zs,Az,cz,code,[],rfl,rfl,?_⟩;rcases hz with⟨rfl,g1,g2,g3⟩ | ⟨hcode,rfl,hno⟩
 ·exact .inl ⟨rfl,g1,g2,by rw[heq];unfold qC;rw[g3]⟩
 ·refine .inr ⟨.inr ⟨hok,?_⟩,rfl,fun z hz=>hno z hz.1 hz.2.1 (hnone z hz)⟩;rw[hgl2];exact hcode
