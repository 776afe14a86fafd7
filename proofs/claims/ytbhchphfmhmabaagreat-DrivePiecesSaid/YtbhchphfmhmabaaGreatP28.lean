import Derived.Test.YtbhchphfmhmabaaGreatP27
set_option maxHeartbeats 512000000
set_option maxRecDepth 4000
set_option linter.unusedVariables false
set_option linter.unusedSimpArgs false
namespace Go.Proofs.YtbhchphfmhmabaaGreat
open Go.RowKit
theorem aMl{p:List Int}(hp:dY p):∀n,n≤p.length→((lT p n).1 = -1∧(lT p n).2=0∧∀i,i<n→p.getD i 0=0)∨∃k:Nat,k<n∧(lT p n).1=(k:Int)∧(lT p n).2=p.getD k 0∧0<p.getD k 0∧∀i,i<n→p.getD i 0≤p.getD k 0
 | 0,_=>.inl ⟨rfl,rfl,fun i hi=>absurd hi (Nat.not_lt_zero i)⟩
 | n+1,hn=>by
  have h1:=hp n oo;rw[lT];rcases aMl hp n oo with⟨a,b,c⟩ | ⟨k,hk,a,b,c,d⟩
  ·split
   ·rename_i h;refine .inr ⟨n,oo,rfl,rfl,oo,fun i hi=>?_⟩;rcases Nat.lt_or_ge i n with h2|h2
    ·have:=c i h2;omega
    ·obtain rfl:i=n:=oo;exact Int.le_refl _
   ·rename_i h;refine .inl ⟨a,b,fun i hi=>?_⟩;rcases Nat.lt_or_ge i n with h2|h2
    ·exact c i h2
    ·obtain rfl:i=n:=oo;omega
  ·split
   ·rename_i h;refine .inr ⟨n,oo,rfl,rfl,oo,fun i hi=>?_⟩;rcases Nat.lt_or_ge i n with h2|h2
    ·have:=d i h2;omega
    ·obtain rfl:i=n:=oo;exact Int.le_refl _
   ·rename_i h;refine .inr ⟨k,oo,a,b,c,fun i hi=>?_⟩;rcases Nat.lt_or_ge i n with h2|h2
    ·exact d i h2
    ·obtain rfl:i=n:=oo;omega
theorem zJ{p:List Int}(h:aA4 p)(h0:0<p.length)(h1:p.length≤4096):∃k:Nat,k<p.length∧(lT p p.length).1=(k:Int)∧262142<p.getD k 0∧∀i,i<p.length→p.getD i 0≤p.getD k 0:=by
 obtain⟨i,hi,hb⟩:=aDv h h0 h1;rcases aMl h.1 p.length (Nat.le_refl _) with⟨-,-,c⟩ | ⟨k,hk,a,b,c,d⟩
 ·have:=c i hi;omega
 ·exact⟨k,hk,a,by have:=d i hi;omega,d⟩
theorem aBn{W r c:Nat}(hc:c<W):aY (W:Int) (r*W+c)=(c:Int)∧aV (W:Int) (r*W+c)=(r:Int):=by
 have h1:(r*W+c)%W=c:=by rw[Nat.mul_comm,Nat.mul_add_mod,Nat.mod_eq_of_lt hc]
 have h2:(r*W+c)/W=r:=by rw[Nat.mul_comm,Nat.mul_add_div oo,Nat.div_eq_of_lt hc,Nat.add_zero]
 unfold aY aV;rw[← Int.natCast_emod,← Int.natCast_ediv,h1,h2];exact⟨rfl,rfl⟩
theorem oD{W:Nat}(hW:0<W)(i:Nat):aY (W:Int) i=((i%W:Nat):Int)∧aV (W:Int) i=((i/W:Nat):Int)∧i/W*W+i%W=i∧i%W<W:=by
 refine⟨?_,?_,?_,Nat.mod_lt _ hW⟩
 ·unfold aY;rw[Int.natCast_emod]
 ·unfold aV;rw[Int.natCast_ediv]
 ·rw[Nat.mul_comm];exact Nat.div_add_mod i W
theorem rF{W H i:Nat}(h:i<W*H):i/W<H:=Nat.div_lt_of_lt_mul h
theorem vX{W H r c:Nat}(hr:r<H)(hc:c<W):r*W+c<W*H:=by have:=Nat.mul_le_mul_right W (show r+1≤H from hr);rw[Nat.add_mul,Nat.one_mul,Nat.mul_comm H]at this;omega
theorem aFz{w h x y st:Int}{p:List Int}(hs:kC w h st)(hl:(p.length:Int)=w*h)(hp:dY p)(hz:0<aL p p.length):cH (bX ⟨w,h,x,y,st,p⟩):=by refine⟨hs,?_,aLw hp hz⟩;show ((vB p).length:Int)=w*h;rw[aCz];exact hl
theorem oW{g:bE}(hg:cH g):∃W H:Nat,g.w=(W:Int)∧g.h=(H:Int)∧(1≤W∧W≤64)∧(1≤H∧H≤64)∧g.p.length=W*H:=by obtain⟨⟨h1,h2,-⟩,h3,-⟩:=hg;refine⟨g.w.toNat,g.h.toNat,oo,oo,oo,oo,?_⟩;have e1:g.w=((g.w.toNat:Nat):Int):=oo;have e2:g.h=((g.h.toNat:Nat):Int):=oo;rw[e1,e2,← Int.natCast_mul]at h3;omega
theorem aSq{g:bE}(hg:cH g):dY (nJ g (dB g).x (dB g).y (dB g).w (dB g).h).p∧0<aL (nJ g (dB g).x (dB g).y (dB g).w (dB g).h).p (nJ g (dB g).x (dB g).y (dB g).w (dB g).h).p.length∧cH (bX (nJ g (dB g).x (dB g).y (dB g).w (dB g).h)):=by
 obtain⟨hl0,hl1⟩:=hg.len;obtain⟨W,H,hW,hH,hW1,hH1,hn⟩:=oW hg;obtain⟨k,hk,e,hb,-⟩:=zJ hg.2.2 hl0 hl1;obtain⟨hs,-,hwh⟩:=hg;obtain⟨w,hw⟩:∃w,min W 16=w:=⟨_,rfl⟩;obtain⟨h,hh⟩:∃h,min H 16=h:=⟨_,rfl⟩;have ew:min g.w 16=(w:Int):=oo;have eh:min g.h 16=(h:Int):=oo;obtain⟨c1,c2,c3,c4⟩:=oD (W:=W) oo k;have c5:k/W<H:=rF oo;obtain⟨u,hu⟩:∃u,k%W=u:=⟨_,rfl⟩;obtain⟨v,hv⟩:∃v,k/W=v:=⟨_,rfl⟩;rw[hu]at c1 c3 c4;rw[hv]at c2 c3 c5;have ec:dB g=⟨3,(u:Int)-(w:Int)/2,(v:Int)-(h:Int)/2,w,h⟩:=by unfold dB;rw[e,ew,eh,hW,show (max ((k:Nat):Int) 0).toNat=k by omega];dsimp only;rw[c1,c2]
 rw[ec];dsimp only;have ewh:((w:Int)*(h:Int)).toNat=w*h:=by rw[← Int.natCast_mul,Int.toNat_natCast]
 have hlen:(nJ g ((u:Int)-(w:Int)/2) ((v:Int)-(h:Int)/2) w h).p.length=w*h:=by unfold nJ;dsimp only;rw[fQ,ewh]
 have hpos:dY (nJ g ((u:Int)-(w:Int)/2) ((v:Int)-(h:Int)/2) w h).p:=fun i hi=>by
  rw[hlen]at hi;unfold nJ;dsimp only;rw[nB _ (by rw[ewh];exact hi)];split
  ·exact oU hwh.1 _
  ·decide
 have hone:0<(nJ g ((u:Int)-(w:Int)/2) ((v:Int)-(h:Int)/2) w h).p.getD (h/2*w+w/2) 0:=by
  have hlt:=vX (W:=w) (H:=h) (r:=h/2) (c:=w/2) oo oo;obtain⟨d1,d2⟩:=aBn (W:=w) (r:=h/2) (c:=w/2) oo;unfold nJ;dsimp only;rw[nB _ (by rw[ewh];exact hlt),d1,d2,if_pos oo];have ei:(((v:Int)-(h:Int)/2+((h/2:Nat):Int))*g.w+((u:Int)-(w:Int)/2+((w/2:Nat):Int))).toNat=k:=by rw[hW,show (v:Int)-(h:Int)/2+((h/2:Nat):Int)=(v:Int) by omega,show (u:Int)-(w:Int)/2+((w/2:Nat):Int)=(u:Int) by omega,← Int.natCast_mul,← Int.natCast_add,c3,Int.toNat_natCast]
  rw[ei];omega
 have hsum:=aHe hpos (i:=h/2*w+w/2) (by rw[hlen];exact vX oo oo) hone;refine⟨hpos,hsum,aFz ?_ ?_ hpos hsum⟩
 ·obtain⟨a1,a2,a3⟩:=hs;exact⟨oo,oo,a3⟩
 ·exact(congrArg Nat.cast hlen).trans (Int.natCast_mul w h)
theorem bAx{g:bE}(hg:cH g)(ho:tT g):dY (nU g).p∧0<aL (nU g).p (nU g).p.length∧cH (bX (nU g)):=by
 obtain⟨hl0,hl1⟩:=hg.len;obtain⟨W,H,hW,hH,hW1,hH1,hn⟩:=oW hg;obtain⟨k,hk,hb⟩:=aDv hg.2.2 hl0 hl1;obtain⟨hs,-,hwh⟩:=hg;obtain⟨o1,o2,o3,o4⟩:=ho;obtain⟨c1,c2,c3,c4⟩:=oD (W:=W) oo k;have c5:k/W<H:=rF oo;have hlen:(nU g).p.length=4*g.p.length:=fQ _ _;have e2:2*g.w=((2*W:Nat):Int):=oo;have hpos:dY (nU g).p:=fun i hi=>by
  rw[hlen]at hi;unfold nU;dsimp only;rw[nB _ hi];have:=oU hwh.1 (aV (2*g.w) i/2*g.w+aY (2*g.w) i/2).toNat
  omega
 have hlt:2*(k/W)*(2*W)+2*(k%W)<4*g.p.length:=by
  have:=vX (W:=2*W) (H:=2*H) (r:=2*(k/W)) (c:=2*(k%W)) oo oo;have e:2*W*(2*H)=4*(W*H):=by rw[Nat.mul_mul_mul_comm]
  omega
 have hone:0<(nU g).p.getD (2*(k/W)*(2*W)+2*(k%W)) 0:=by
  obtain⟨d1,d2⟩:=aBn (W:=2*W) (r:=2*(k/W)) (c:=2*(k%W)) oo;unfold nU;dsimp only;rw[nB _ hlt,e2,d1,d2,hW];have ei:(((2*(k/W):Nat):Int)/2*(W:Int)+((2*(k%W):Nat):Int)/2).toNat=k:=by rw[show ((2*(k/W):Nat):Int)/2=((k/W:Nat):Int) by omega,show ((2*(k%W):Nat):Int)/2=((k%W:Nat):Int) by omega,← Int.natCast_mul,← Int.natCast_add,c3,Int.toNat_natCast]
  rw[ei];omega
 have hsum:=aHe hpos (i:=2*(k/W)*(2*W)+2*(k%W)) (by rw[hlen];exact hlt) hone;refine⟨hpos,hsum,aFz ?_ ?_ hpos hsum⟩
 ·obtain⟨a1,a2,a3⟩:=hs;exact⟨oo,oo,oo,oo⟩
 ·show ((nU g).p.length:Int)=_;rw[hlen,hn,show 4*(W*H)=2*W*(2*H) by rw[Nat.mul_mul_mul_comm],Int.natCast_mul];show ((2*W:Nat):Int)*((2*H:Nat):Int)=2*g.w*(2*g.h);rw[e2,show 2*g.h=((2*H:Nat):Int) by omega]
theorem aDi(l:List Int)(j:Nat)(v:Int)(hj:j<l.length)(n:Nat):(l.set j v).getD n 0=if j=n then v else l.getD n 0:=by
 rw[List.getD_eq_getElem?_getD,List.getElem?_set];split
 ·rfl
 ·rw[← List.getD_eq_getElem?_getD]
theorem aO1(l:List Int)(j:Nat)(v:Int)(hj:j<l.length):∀n,n≤l.length→aL (l.set j v) n=aL l n+if j<n then v-l.getD j 0 else 0
 | 0,_=>by simp[aL]
 | n+1,hn=>by
  rw[aL,aL,aO1 l j v hj n oo,aDi l j v hj];by_cases e:j=n
  ·subst e;rw[if_pos rfl,if_neg oo,if_pos oo];omega
  ·rw[if_neg e];by_cases h:j<n
   ·rw[if_pos h,if_pos oo];omega
   ·rw[if_neg h,if_neg oo];omega
theorem aO3:∀n m,aL (List.replicate m 0) n=0
 | 0,_=>rfl
 | n+1,m=>by rw[aL,aO3 n m,List.getD_eq_getElem?_getD,List.getElem?_replicate];split<;>rfl
theorem aO0{l:List Int}(h:∀i,i<l.length→0≤l.getD i 0){i:Nat}: ∀n,n≤l.length→i<n→0≤l.getD i 0∧l.getD i 0≤aL l n
 | n+1,hn,hi=>by
  have h1:=h n oo;have h0:0≤aL l n:=by
   have key:∀m,m≤l.length→0≤aL l m:=by
    intro m
    induction m with
    | zero=>intro _;exact Int.le_refl _
    | succ m ih=>intro hm;have:=ih oo;have:=h m oo;rw[aL];omega
   exact key n oo
  rw[aL];rcases Nat.lt_or_ge i n with h2|h2
  ·have:=aO0 h n oo h2;omega
  ·obtain rfl:i=n:=oo;omega
theorem aCs(g:bE):∀i,(lS g i).length=g.p.length/4
 | 0=>List.length_replicate ..
 | i+1=>by rw[lS,List.length_set,aCs g i]
theorem aKv{g:bE}{W H:Nat}(hW:g.w=((2*W:Nat):Int))(hn:g.p.length=2*W*(2*H))(hW1:0<W){i:Nat}(hi:i<g.p.length):(aV g.w i/2*(g.w/2)+aY g.w i/2).toNat=i/(2*W)/2*W+i%(2*W)/2∧i/(2*W)/2*W+i%(2*W)/2<g.p.length/4:=by
 obtain⟨c1,c2,c3,c4⟩:=oD (W:=2*W) oo i;have c5:i/(2*W)<2*H:=rF oo;rw[hW,c1,c2];have e4:g.p.length/4=W*H:=by
  have e:2*W*(2*H)=4*(W*H):=by rw[Nat.mul_mul_mul_comm]
  omega
 rw[e4];generalize i/(2*W)=r at *;generalize i%(2*W)=c at *;refine⟨?_,vX oo oo⟩;rw[show ((2*W:Nat):Int)/2=(W:Int) by omega,show (r:Int)/2=((r/2:Nat):Int) by omega,show (c:Int)/2=((c/2:Nat):Int) by omega,← Int.natCast_mul,← Int.natCast_add,Int.toNat_natCast]
theorem aKt{g:bE}{W H:Nat}(hW:g.w=((2*W:Nat):Int))(hn:g.p.length=2*W*(2*H))(hW1:0<W)(hp:dY g.p):∀i,i≤g.p.length→aL (lS g i) (g.p.length/4)=aL g.p i∧∀j,0≤(lS g i).getD j 0
 | 0,_=>by
  rw[lS,aO3];refine⟨rfl,fun j=>?_⟩;rw[List.getD_eq_getElem?_getD,List.getElem?_replicate];split<;>exact Int.le_refl _
 | i+1,h=>by
  obtain⟨h1,h2⟩:=aKt hW hn hW1 hp i oo;obtain⟨e1,e2⟩:=aKv hW hn hW1 (i:=i) oo;have hl:=aCs g i;have hpi:=hp i oo;rw[lS,e1];generalize i/(2*W)/2*W+i%(2*W)/2=k at *;refine⟨?_,fun j=>?_⟩
  ·rw[aO1 _ _ _ oo _ oo,if_pos e2,h1,aL];omega
  ·rw[aDi _ _ _ oo];split
   ·have:=h2 k;omega
   ·exact h2 j
theorem aV2{g:bE}(hg:cH g)(ho:uU g)(h8:8≤g.w∧8≤g.h):dY (kN g).p∧0<aL (kN g).p (kN g).p.length∧cH (bX (kN g)):=by
 obtain⟨hl0,hl1⟩:=hg.len;obtain⟨W,H,hW,hH,hW1,hH1,hn⟩:=oW hg;obtain⟨hs,-,hwh⟩:=hg;obtain⟨o1,o2,o3⟩:=ho;obtain⟨a,rfl⟩:∃a,W=2*a:=⟨W/2,oo⟩;obtain⟨b,rfl⟩:∃b,H=2*b:=⟨H/2,oo⟩;obtain⟨j1,j2⟩:=aKt hW hn oo hwh.1 g.p.length (Nat.le_refl _);have hlen:(kN g).p.length=g.p.length/4:=aCs g _;have e4:g.p.length/4=a*b:=by
  have e:2*a*(2*b)=4*(a*b):=by rw[Nat.mul_mul_mul_comm]
  omega
 have hsum:aL (kN g).p (kN g).p.length=aL g.p g.p.length:=by rw[hlen];exact j1
 have hpos:dY (kN g).p:=fun i hi=>by
  refine⟨j2 i,?_⟩;obtain⟨B,hB⟩:∃B,∀i,i<(kN g).p.length→0≤(kN g).p.getD i 0∧(kN g).p.getD i 0≤B:=by refine⟨aL (kN g).p (kN g).p.length,fun i hi=>⟨j2 i,?_⟩⟩;exact(aO0 (fun i _=>j2 i) _ (Nat.le_refl _) hi).2
  have:=aDl hB _ (Nat.le_refl _) hi;have:=hwh.2.2;omega
 have hz:0<aL (kN g).p (kN g).p.length:=by rw[hsum];have:=hwh.2.1;omega
 refine⟨hpos,hz,aFz ?_ ?_ hpos hz⟩
 ·obtain⟨a1,a2,a3⟩:=hs;exact⟨oo,oo,oo,oo⟩
 ·show ((kN g).p.length:Int)=g.w/2*(g.h/2);rw[hlen,e4,hW,hH,Int.natCast_mul];rw[show ((2*a:Nat):Int)/2=(a:Int) by omega,show ((2*b:Nat):Int)/2=(b:Int) by omega]
theorem aDd{g:bE}(hg:cH g)(hk:(aW g).kind≠0):((aW g).kind=1∨(aW g).kind=2∨(aW g).kind=3)∧dY (bN g (aW g)).p∧0<aL (bN g (aW g)).p (bN g (aW g)).p.length∧cH (bX (bN g (aW g))):=by
 have key:∀c,aW g=c→c.kind≠0→(c.kind=1∨c.kind=2∨c.kind=3)∧dY (bN g c).p∧0<aL (bN g c).p (bN g c).p.length∧cH (bX (bN g c)):=by
  intro c hc hk;unfold aW at hc;split at hc
  ·rename_i h;subst hc;exact⟨.inr (.inl rfl),aV2 hg h.2.2.2 ⟨h.2.1,h.2.2.1⟩⟩
  ·split at hc
   ·rename_i h;subst hc;exact⟨.inl rfl,bAx hg h.2.2.2⟩
   ·split at hc
    ·subst hc;exact⟨.inr (.inr rfl),aSq hg⟩
    ·subst hc;exact absurd rfl hk
 exact key _ rfl hk
section
variable {W H:Nat} {f:List Int}
theorem aOq{n:lN}(h:jV n)(r:Int):jV (wZ n r):=by obtain⟨h1,h2,h3⟩:=h;exact⟨by unfold wZ;dsimp only;omega,h2,h3⟩
theorem aHu{g:bE}{n:lN}{z:Int}{l:List Int}(hn:jV n)(h:rH W H f g n z=some l):l.length=g.p.length∧Wt l∧∀i,i<l.length→1≤l.getD i 0:=by
 unfold rH at h;dsimp only at h;split at h
 ·cases h
 ·injection h with h;have hl:l.length=g.p.length:=by rw[← h];exact fQ _ _
  have hv:=aOq hn (zP (tU W H f ((fP g).1/256) ((fP g).2/256) 1)/4);have key:∀i,i<l.length→1≤l.getD i 0∧l.getD i 0≤65536:=fun i hi=>by rw[← h,nB _ oo];have h1:=aOo hv (oV W H f (g.x+aY g.w i*g.st) (g.y+aV g.w i*g.st)-z);obtain⟨-,h2,-⟩:=hv;split<;>omega
  exact⟨hl,fun i hi=>by have:=key i hi;omega,fun i hi=>(key i hi).1⟩
end
structure yR(s:aK):Prop where
 g:cH s.g
 b:0≤s.bk.b∧s.bk.b≤1099511627776
theorem aL4:∀(k:Nat) {s:aK},yR s→yR (dR k s)∧((dR k s).cf=s.cf∧(dR k s).ln=s.ln∧(dR k s).p=s.p∧(dR k s).w=s.w∧(dR k s).mode=s.mode∧(dR k s).x=s.x∧(dR k s).y=s.y)∧(dR k s).deeds.length≤s.deeds.length+k
 | 0,s,h=>⟨h,⟨rfl,rfl,rfl,rfl,rfl,rfl,rfl⟩,Nat.le_refl _⟩
 | k+1,s,h=>by
  rw[dR];dsimp only;split
  ·exact⟨h,⟨rfl,rfl,rfl,rfl,rfl,rfl,rfl⟩,oo⟩
  ·rename_i hk;obtain⟨hc,hp,hz,ho⟩:=aDd h.g hk;have hln:=ho.len;have hcost:0≤cM ((bX (bN s.g (aW s.g))).w*(bX (bN s.g (aW s.g))).h)∧cM ((bX (bN s.g (aW s.g))).w*(bX (bN s.g (aW s.g))).h)≤4194400:=qR (by rw[← ho.2.1];omega);have hs0:0≤aL s.g.p s.g.p.length:=by have:=h.g.2.2.2.1;have:=h.g.len;omega
   obtain⟨b,hb,hb1⟩:∃b,(if (aW s.g).kind=1 then dC s.bk s.bk.b (2*cM ((bX (bN s.g (aW s.g))).w*(bX (bN s.g (aW s.g))).h))else if (aW s.g).kind=2 then dC s.bk s.bk.b (cM ((bX (bN s.g (aW s.g))).w*(bX (bN s.g (aW s.g))).h))else dC s.bk (gL s.bk.b 1 (aL s.g.p s.g.p.length) (aL (bN s.g (aW s.g)).p (bN s.g (aW s.g)).p.length)) (cM ((bX (bN s.g (aW s.g))).w*(bX (bN s.g (aW s.g))).h)))=b∧0≤b.b∧b.b≤1099511627776:=by
    have hb0:=h.b;have hsc:=yE (b:=s.bk.b) (most:=1) (s:=aL s.g.p s.g.p.length) (z:=aL (bN s.g (aW s.g)).p (bN s.g (aW s.g)).p.length) hb0 od hs0;generalize cM ((bX (bN s.g (aW s.g))).w*(bX (bN s.g (aW s.g))).h)=co at *;refine⟨_,rfl,?_⟩;split
    ·exact rD ⟨hb0,oo⟩
    ·split
     ·exact rD ⟨hb0,oo⟩
     ·exact rD ⟨hsc,oo⟩
   rw[hb];have hstep:yR { s with g:=bX (bN s.g (aW s.g)),bk:=b,deeds:=s.deeds++[⟨4,bW,0,0,0,[],aW s.g⟩] }:=⟨ho,hb1⟩;obtain⟨r1,⟨r2,r3,r4,r5,r6,r7,r8⟩,r9⟩:=aL4 k hstep;exact⟨r1,⟨r2,r3,r4,r5,r6,r7,r8⟩,by refine Nat.le_trans r9 ?_;show (s.deeds++[(⟨4,bW,0,0,0,[],aW s.g⟩:mM)]).length+k≤_;rw[List.length_append,List.length_singleton];omega⟩
def lY(s:Ln):Prop:=s.ok∧(0≤s.throw∧s.throw≤100)∧s.threw≤100
theorem aWy(s:Ln)(k:Int):(s.note k).high=s.high∧(s.note k).last=s.last∧(s.note k).jump=s.jump∧(s.note k).threw=s.threw∧(s.note k).throw=s.throw:=by
 unfold Ln.note;repeat' split
 all_goals exact⟨rfl,rfl,rfl,rfl,rfl⟩
theorem lY.note{s:Ln}(h:lY s)(k:Int):lY (s.note k):=by obtain⟨e1,e2,e3,e4,e5⟩:=aWy s k;unfold lY Ln.ok at h ⊢;rw[e1,e2,e3,e4,e5];exact h
theorem yL:(-4294967296:Int)≤0∧(0:Int)≤4294967296:=by decide
theorem lY.radar{s:Ln}(h:lY s)(time:Int){a:Int}(ha : -2147483648≤a∧a<2147483648):lY (s.radar time a).1∧(-4294967296≤(s.radar time a).2.2.1∧(s.radar time a).2.2.1≤4294967296):=by
 unfold Ln.radar;have h0:=h;obtain⟨⟨i1,i2,i3,i4,i5,i6,i7⟩,⟨i8,i9⟩,i10⟩:=h0;split
 ·exact⟨h.note 2,yL⟩
 split
 ·exact⟨h.note 3,yL⟩
 split
 ·split
  ·refine⟨lY.note ?_ 4,yL⟩;exact⟨⟨i1,i2,i3,i4,i5,by show 0≤s.threw+1;omega,by show s.threw+1≤1000;omega⟩,⟨i8,i9⟩,by show s.threw+1≤100;omega⟩
  ·refine⟨lY.note ?_ 5,by show -4294967296≤s.high-a;omega,by show s.high-a≤4294967296;omega⟩;exact⟨⟨i1,i2,by show -4294967296≤s.high-a;omega,by show s.high-a≤4294967296;omega,i5,(by decide:(0:Int)≤0),(by decide:(0:Int)≤1000)⟩,⟨i8,i9⟩,(by decide:(0:Int)≤100)⟩
 ·refine⟨lY.note ?_ 0,by show -4294967296≤s.high-a;omega,by show s.high-a≤4294967296;omega⟩;exact⟨⟨i1,i2,by show -4294967296≤s.high-a;omega,by show s.high-a≤4294967296;omega,i5,(by decide:(0:Int)≤0),(by decide:(0:Int)≤1000)⟩,⟨i8,i9⟩,(by decide:(0:Int)≤100)⟩
theorem lY.order{s:Ln}(h:lY s)(seq time:Int):lY (s.order seq time):=by
 unfold Ln.order;split
 ·exact h
 ·exact h
theorem lY.take{s:Ln}(h:lY s)(kind seq time:Int){a:Int}(ha : -2147483648≤a∧a<2147483648):lY (s.take kind seq time a).1∧(-4294967296≤(s.take kind seq time a).2.2.1∧(s.take kind seq time a).2.2.1≤4294967296):=by
 unfold Ln.take;split
 ·exact⟨h.note 2,yL⟩
 split
 ·exact⟨h.note 1,yL⟩
 split
 ·refine⟨lY.note ?_ 0,yL⟩;obtain⟨⟨i1,i2,i3,i4,i5,i6,i7⟩,i8,i9⟩:=h.order seq time;exact⟨⟨ha.1,ha.2,i3,i4,i5,i6,i7⟩,i8,i9⟩
 split
 ·exact(h.order seq time).radar time ha
 ·exact⟨(h.order seq time).note 6,yL⟩
structure kU(p:kE):Prop where
 len:p.l.length=64
 first:p.first<64
 n:p.n≤64
 at_:(-16777216≤p.x∧p.x≤16777216)∧(-16777216≤p.y∧p.y≤16777216)
 gap:0≤p.gap∧p.gap≤1048576
 all:∀i,i<64→((-16777216≤(p.l.getD i default).dx∧(p.l.getD i default).dx≤16777216)∧(-16777216≤(p.l.getD i default).dy∧(p.l.getD i default).dy≤16777216))∧(-4294967296≤(p.l.getD i default).z∧(p.l.getD i default).z≤4294967296)
theorem vC(gap:Int):kU (eD gap):=by
 refine⟨List.length_replicate ..,by show 0<64;decide,by show 0≤64;decide,⟨⟨by show (-16777216:Int)≤0;decide,by show (0:Int)≤16777216;decide⟩,by show (-16777216:Int)≤0;decide,by show (0:Int)≤16777216;decide⟩,⟨by show 0≤min (max gap 0) 1048576;omega,by show min (max gap 0) 1048576≤1048576;omega⟩,fun i hi=>?_⟩;have e:(eD gap).l.getD i default=⟨0,0,0⟩:=by show (List.replicate 64 (⟨0,0,0⟩:cK)).getD i default=_;rw[List.getD_eq_getElem?_getD,List.getElem?_replicate,if_pos hi];rfl
 rw[e];decide
theorem kU.move{p:kE}(h:kU p)(dx dy:Int):kU (nQ p dx dy).1:=by
 unfold nQ;split
 ·exact h
 split
 ·exact h
 ·rename_i h1 h2;unfold wP at h2;exact⟨h.len,h.first,h.n,⟨by show _≤p.x+dx∧p.x+dx≤_;omega,by show _≤p.y+dy∧p.y+dy≤_;omega⟩,h.gap,h.all⟩
theorem aNp(l:List cK)(j:Nat)(v:cK)(hj:j<l.length)(n:Nat):(l.set j v).getD n default=if j=n then v else l.getD n default:=by
 rw[List.getD_eq_getElem?_getD,List.getElem?_set];split
 ·rfl
 ·rw[← List.getD_eq_getElem?_getD]
theorem kU.add{p:kE}(h:kU p){z:Int}(hz : -4294967296≤z∧z≤4294967296):kU (kB p z):=by
 have hl:=h.len;have hn:=h.n;unfold kB;split
 ·exact h
 split
 ·have hj:((p.first+1)%64+63)%64<64:=Nat.mod_lt _ od;refine⟨by show (p.l.set _ _).length=64;rw[List.length_set];exact hl,Nat.mod_lt _ od,hn,h.at_,h.gap,fun i hi=>?_⟩;show (_∧_)∧_;rw[aNp _ _ _ oo];split
  ·exact⟨h.at_,hz⟩
  ·exact h.all i hi
 ·have hj:(p.first+p.n)%64<64:=Nat.mod_lt _ od;refine⟨by show (p.l.set _ _).length=64;rw[List.length_set];exact hl,h.first,by show p.n+1≤64;omega,h.at_,h.gap,fun i hi=>?_⟩;show (_∧_)∧_;rw[aNp _ _ _ oo];split
  ·exact⟨h.at_,hz⟩
  ·exact h.all i hi
theorem zI(p:kE):∀i,(kZ p i).length=i
 | 0=>rfl
 | i+1=>by rw[kZ,List.length_append,zI p i];rfl
