import Derived.Test.YtpmkboockihdbaaGreatP27
set_option maxHeartbeats 512000000
set_option maxRecDepth 4000
set_option linter.unusedVariables false
set_option linter.unusedSimpArgs false
namespace Go.Proofs.YtpmkboockihdbaaGreat
open Go.RowKit
theorem aNe{p:List Int}(hp:dI p):∀n,n≤p.length→((mP p n).1 = -1∧(mP p n).2=0∧∀i,i<n→p.getD i 0=0)∨∃k:Nat,k<n∧(mP p n).1=(k:Int)∧(mP p n).2=p.getD k 0∧0<p.getD k 0∧∀i,i<n→p.getD i 0≤p.getD k 0
 | 0,_=>.inl ⟨rfl,rfl,fun i hi=>absurd hi (Nat.not_lt_zero i)⟩
 | n+1,hn=>by
  have h1:=hp n oo;rw[mP];rcases aNe hp n oo with⟨a,b,c⟩ | ⟨k,hk,a,b,c,d⟩
  ·split
   ·rename_i h;refine .inr ⟨n,oo,rfl,rfl,oo,fun i hi=>?_⟩;rcases Nat.lt_or_ge i n with h2|h2
    ·have:=c i h2;omega
    ·obtain rfl:i=n:=oo;exact Int.le_refl _
   ·rename_i h;refine .inl ⟨a,b,fun i hi=>?_⟩;rcases Nat.lt_or_ge i n with h2|h2
    ·exact c i h2
    ·obtain rfl:i=n:=oo;omega
  ·split
   ·rename_i h;refine .inr ⟨n,oo,rfl,rfl,oo,fun i hi=>?_⟩;rcases Nat.lt_or_ge i n with h2|h2
    ·have:=d i h2;omega
    ·obtain rfl:i=n:=oo;exact Int.le_refl _
   ·rename_i h;refine .inr ⟨k,oo,a,b,c,fun i hi=>?_⟩;rcases Nat.lt_or_ge i n with h2|h2
    ·exact d i h2
    ·obtain rfl:i=n:=oo;omega
theorem aA3{p:List Int}(h:aAl p)(h0:0<p.length)(h1:p.length≤4096):∃k:Nat,k<p.length∧(mP p p.length).1=(k:Int)∧262142<p.getD k 0∧∀i,i<p.length→p.getD i 0≤p.getD k 0:=by
 obtain⟨i,hi,hb⟩:=aEh h h0 h1;rcases aNe h.1 p.length (Nat.le_refl _) with⟨-,-,c⟩ | ⟨k,hk,a,b,c,d⟩
 ·have:=c i hi;omega
 ·exact⟨k,hk,a,by have:=d i hi;omega,d⟩
theorem aCc{W r c:Nat}(hc:c<W):aU (W:Int) (r*W+c)=(c:Int)∧aT (W:Int) (r*W+c)=(r:Int):=by
 have h1:(r*W+c)%W=c:=by rw[Nat.mul_comm,Nat.mul_add_mod,Nat.mod_eq_of_lt hc]
 have h2:(r*W+c)/W=r:=by rw[Nat.mul_comm,Nat.mul_add_div oo,Nat.div_eq_of_lt hc,Nat.add_zero]
 unfold aU aT;rw[← Int.natCast_emod,← Int.natCast_ediv,h1,h2];exact⟨rfl,rfl⟩
theorem nG{W:Nat}(hW:0<W)(i:Nat):aU (W:Int) i=((i%W:Nat):Int)∧aT (W:Int) i=((i/W:Nat):Int)∧i/W*W+i%W=i∧i%W<W:=by
 refine⟨?_,?_,?_,Nat.mod_lt _ hW⟩
 ·unfold aU;rw[Int.natCast_emod]
 ·unfold aT;rw[Int.natCast_ediv]
 ·rw[Nat.mul_comm];exact Nat.div_add_mod i W
theorem pR{W H i:Nat}(h:i<W*H):i/W<H:=Nat.div_lt_of_lt_mul h
theorem wQ{W H r c:Nat}(hr:r<H)(hc:c<W):r*W+c<W*H:=by have:=Nat.mul_le_mul_right W (show r+1≤H from hr);rw[Nat.add_mul,Nat.one_mul,Nat.mul_comm H]at this;omega
theorem aGm{w h x y st:Int}{p:List Int}(hs:kY w h st)(hl:(p.length:Int)=w*h)(hp:dI p)(hz:0<aM p p.length):cO (cC ⟨w,h,x,y,st,p⟩):=by refine⟨hs,?_,aGw hp hz⟩;show ((mF p).length:Int)=w*h;rw[aBk];exact hl
theorem oC{g:bE}(hg:cO g):∃W H:Nat,g.w=(W:Int)∧g.h=(H:Int)∧(1≤W∧W≤64)∧(1≤H∧H≤64)∧g.p.length=W*H:=by obtain⟨⟨h1,h2,-⟩,h3,-⟩:=hg;refine⟨g.w.toNat,g.h.toNat,oo,oo,oo,oo,?_⟩;have e1:g.w=((g.w.toNat:Nat):Int):=oo;have e2:g.h=((g.h.toNat:Nat):Int):=oo;rw[e1,e2,← Int.natCast_mul]at h3;omega
theorem aTc{g:bE}(hg:cO g):dI (oT g (dG g).x (dG g).y (dG g).w (dG g).h).p∧0<aM (oT g (dG g).x (dG g).y (dG g).w (dG g).h).p (oT g (dG g).x (dG g).y (dG g).w (dG g).h).p.length∧cO (cC (oT g (dG g).x (dG g).y (dG g).w (dG g).h)):=by
 obtain⟨hl0,hl1⟩:=hg.len;obtain⟨W,H,hW,hH,hW1,hH1,hn⟩:=oC hg;obtain⟨k,hk,e,hb,-⟩:=aA3 hg.2.2 hl0 hl1;obtain⟨hs,-,hwh⟩:=hg;obtain⟨w,hw⟩:∃w,min W 16=w:=⟨_,rfl⟩;obtain⟨h,hh⟩:∃h,min H 16=h:=⟨_,rfl⟩;have ew:min g.w 16=(w:Int):=oo;have eh:min g.h 16=(h:Int):=oo;obtain⟨c1,c2,c3,c4⟩:=nG (W:=W) oo k;have c5:k/W<H:=pR oo;obtain⟨u,hu⟩:∃u,k%W=u:=⟨_,rfl⟩;obtain⟨v,hv⟩:∃v,k/W=v:=⟨_,rfl⟩;rw[hu]at c1 c3 c4;rw[hv]at c2 c3 c5;have ec:dG g=⟨3,(u:Int)-(w:Int)/2,(v:Int)-(h:Int)/2,w,h⟩:=by unfold dG;rw[e,ew,eh,hW,show (max ((k:Nat):Int) 0).toNat=k by omega];dsimp only;rw[c1,c2]
 rw[ec];dsimp only;have ewh:((w:Int)*(h:Int)).toNat=w*h:=by rw[← Int.natCast_mul,Int.toNat_natCast]
 have hlen:(oT g ((u:Int)-(w:Int)/2) ((v:Int)-(h:Int)/2) w h).p.length=w*h:=by unfold oT;dsimp only;rw[eP,ewh]
 have hpos:dI (oT g ((u:Int)-(w:Int)/2) ((v:Int)-(h:Int)/2) w h).p:=fun i hi=>by
  rw[hlen]at hi;unfold oT;dsimp only;rw[mT _ (by rw[ewh];exact hi)];split
  ·exact qC hwh.1 _
  ·decide
 have hone:0<(oT g ((u:Int)-(w:Int)/2) ((v:Int)-(h:Int)/2) w h).p.getD (h/2*w+w/2) 0:=by
  have hlt:=wQ (W:=w) (H:=h) (r:=h/2) (c:=w/2) oo oo;obtain⟨d1,d2⟩:=aCc (W:=w) (r:=h/2) (c:=w/2) oo;unfold oT;dsimp only;rw[mT _ (by rw[ewh];exact hlt),d1,d2,if_pos oo];have ei:(((v:Int)-(h:Int)/2+((h/2:Nat):Int))*g.w+((u:Int)-(w:Int)/2+((w/2:Nat):Int))).toNat=k:=by rw[hW,show (v:Int)-(h:Int)/2+((h/2:Nat):Int)=(v:Int) by omega,show (u:Int)-(w:Int)/2+((w/2:Nat):Int)=(u:Int) by omega,← Int.natCast_mul,← Int.natCast_add,c3,Int.toNat_natCast]
  rw[ei];omega
 have hsum:=aI3 hpos (i:=h/2*w+w/2) (by rw[hlen];exact wQ oo oo) hone;refine⟨hpos,hsum,aGm ?_ ?_ hpos hsum⟩
 ·obtain⟨a1,a2,a3⟩:=hs;exact⟨oo,oo,a3⟩
 ·exact(congrArg Nat.cast hlen).trans (Int.natCast_mul w h)
theorem bB5{g:bE}(hg:cO g)(ho:uP g):dI (pE g).p∧0<aM (pE g).p (pE g).p.length∧cO (cC (pE g)):=by
 obtain⟨hl0,hl1⟩:=hg.len;obtain⟨W,H,hW,hH,hW1,hH1,hn⟩:=oC hg;obtain⟨k,hk,hb⟩:=aEh hg.2.2 hl0 hl1;obtain⟨hs,-,hwh⟩:=hg;obtain⟨o1,o2,o3,o4⟩:=ho;obtain⟨c1,c2,c3,c4⟩:=nG (W:=W) oo k;have c5:k/W<H:=pR oo;have hlen:(pE g).p.length=4*g.p.length:=eP _ _;have e2:2*g.w=((2*W:Nat):Int):=oo;have hpos:dI (pE g).p:=fun i hi=>by
  rw[hlen]at hi;unfold pE;dsimp only;rw[mT _ hi];have:=qC hwh.1 (aT (2*g.w) i/2*g.w+aU (2*g.w) i/2).toNat
  omega
 have hlt:2*(k/W)*(2*W)+2*(k%W)<4*g.p.length:=by
  have:=wQ (W:=2*W) (H:=2*H) (r:=2*(k/W)) (c:=2*(k%W)) oo oo;have e:2*W*(2*H)=4*(W*H):=by rw[Nat.mul_mul_mul_comm]
  omega
 have hone:0<(pE g).p.getD (2*(k/W)*(2*W)+2*(k%W)) 0:=by
  obtain⟨d1,d2⟩:=aCc (W:=2*W) (r:=2*(k/W)) (c:=2*(k%W)) oo;unfold pE;dsimp only;rw[mT _ hlt,e2,d1,d2,hW];have ei:(((2*(k/W):Nat):Int)/2*(W:Int)+((2*(k%W):Nat):Int)/2).toNat=k:=by rw[show ((2*(k/W):Nat):Int)/2=((k/W:Nat):Int) by omega,show ((2*(k%W):Nat):Int)/2=((k%W:Nat):Int) by omega,← Int.natCast_mul,← Int.natCast_add,c3,Int.toNat_natCast]
  rw[ei];omega
 have hsum:=aI3 hpos (i:=2*(k/W)*(2*W)+2*(k%W)) (by rw[hlen];exact hlt) hone;refine⟨hpos,hsum,aGm ?_ ?_ hpos hsum⟩
 ·obtain⟨a1,a2,a3⟩:=hs;exact⟨oo,oo,oo,oo⟩
 ·show ((pE g).p.length:Int)=_;rw[hlen,hn,show 4*(W*H)=2*W*(2*H) by rw[Nat.mul_mul_mul_comm],Int.natCast_mul];show ((2*W:Nat):Int)*((2*H:Nat):Int)=2*g.w*(2*g.h);rw[e2,show 2*g.h=((2*H:Nat):Int) by omega]
theorem aE2(l:List Int)(j:Nat)(v:Int)(hj:j<l.length)(n:Nat):(l.set j v).getD n 0=if j=n then v else l.getD n 0:=by
 rw[List.getD_eq_getElem?_getD,List.getElem?_set];split
 ·rfl
 ·rw[← List.getD_eq_getElem?_getD]
theorem aOx(l:List Int)(j:Nat)(v:Int)(hj:j<l.length):∀n,n≤l.length→aM (l.set j v) n=aM l n+if j<n then v-l.getD j 0 else 0
 | 0,_=>by simp[aM]
 | n+1,hn=>by
  rw[aM,aM,aOx l j v hj n oo,aE2 l j v hj];by_cases e:j=n
  ·subst e;rw[if_pos rfl,if_neg oo,if_pos oo];omega
  ·rw[if_neg e];by_cases h:j<n
   ·rw[if_pos h,if_pos oo];omega
   ·rw[if_neg h,if_neg oo];omega
theorem aOz:∀n m,aM (List.replicate m 0) n=0
 | 0,_=>rfl
 | n+1,m=>by rw[aM,aOz n m,List.getD_eq_getElem?_getD,List.getElem?_replicate];split<;>rfl
theorem aOw{l:List Int}(h:∀i,i<l.length→0≤l.getD i 0){i:Nat}: ∀n,n≤l.length→i<n→0≤l.getD i 0∧l.getD i 0≤aM l n
 | n+1,hn,hi=>by
  have h1:=h n oo;have h0:0≤aM l n:=by
   have key:∀m,m≤l.length→0≤aM l m:=by
    intro m
    induction m with
    | zero=>intro _;exact Int.le_refl _
    | succ m ih=>intro hm;have:=ih oo;have:=h m oo;rw[aM];omega
   exact key n oo
  rw[aM];rcases Nat.lt_or_ge i n with h2|h2
  ·have:=aOw h n oo h2;omega
  ·obtain rfl:i=n:=oo;omega
theorem aDb(g:bE):∀i,(mO g i).length=g.p.length/4
 | 0=>List.length_replicate ..
 | i+1=>by rw[mO,List.length_set,aDb g i]
theorem aLm{g:bE}{W H:Nat}(hW:g.w=((2*W:Nat):Int))(hn:g.p.length=2*W*(2*H))(hW1:0<W){i:Nat}(hi:i<g.p.length):(aT g.w i/2*(g.w/2)+aU g.w i/2).toNat=i/(2*W)/2*W+i%(2*W)/2∧i/(2*W)/2*W+i%(2*W)/2<g.p.length/4:=by
 obtain⟨c1,c2,c3,c4⟩:=nG (W:=2*W) oo i;have c5:i/(2*W)<2*H:=pR oo;rw[hW,c1,c2];have e4:g.p.length/4=W*H:=by
  have e:2*W*(2*H)=4*(W*H):=by rw[Nat.mul_mul_mul_comm]
  omega
 rw[e4];generalize i/(2*W)=r at *;generalize i%(2*W)=c at *;refine⟨?_,wQ oo oo⟩;rw[show ((2*W:Nat):Int)/2=(W:Int) by omega,show (r:Int)/2=((r/2:Nat):Int) by omega,show (c:Int)/2=((c/2:Nat):Int) by omega,← Int.natCast_mul,← Int.natCast_add,Int.toNat_natCast]
theorem aLk{g:bE}{W H:Nat}(hW:g.w=((2*W:Nat):Int))(hn:g.p.length=2*W*(2*H))(hW1:0<W)(hp:dI g.p):∀i,i≤g.p.length→aM (mO g i) (g.p.length/4)=aM g.p i∧∀j,0≤(mO g i).getD j 0
 | 0,_=>by
  rw[mO,aOz];refine⟨rfl,fun j=>?_⟩;rw[List.getD_eq_getElem?_getD,List.getElem?_replicate];split<;>exact Int.le_refl _
 | i+1,h=>by
  obtain⟨h1,h2⟩:=aLk hW hn hW1 hp i oo;obtain⟨e1,e2⟩:=aLm hW hn hW1 (i:=i) oo;have hl:=aDb g i;have hpi:=hp i oo;rw[mO,e1];generalize i/(2*W)/2*W+i%(2*W)/2=k at *;refine⟨?_,fun j=>?_⟩
  ·rw[aOx _ _ _ oo _ oo,if_pos e2,h1,aM];omega
  ·rw[aE2 _ _ _ oo];split
   ·have:=h2 k;omega
   ·exact h2 j
theorem aVm{g:bE}(hg:cO g)(ho:vQ g)(h8:8≤g.w∧8≤g.h):dI (lL g).p∧0<aM (lL g).p (lL g).p.length∧cO (cC (lL g)):=by
 obtain⟨hl0,hl1⟩:=hg.len;obtain⟨W,H,hW,hH,hW1,hH1,hn⟩:=oC hg;obtain⟨hs,-,hwh⟩:=hg;obtain⟨o1,o2,o3⟩:=ho;obtain⟨a,rfl⟩:∃a,W=2*a:=⟨W/2,oo⟩;obtain⟨b,rfl⟩:∃b,H=2*b:=⟨H/2,oo⟩;obtain⟨j1,j2⟩:=aLk hW hn oo hwh.1 g.p.length (Nat.le_refl _);have hlen:(lL g).p.length=g.p.length/4:=aDb g _;have e4:g.p.length/4=a*b:=by
  have e:2*a*(2*b)=4*(a*b):=by rw[Nat.mul_mul_mul_comm]
  omega
 have hsum:aM (lL g).p (lL g).p.length=aM g.p g.p.length:=by rw[hlen];exact j1
 have hpos:dI (lL g).p:=fun i hi=>by
  refine⟨j2 i,?_⟩;obtain⟨B,hB⟩:∃B,∀i,i<(lL g).p.length→0≤(lL g).p.getD i 0∧(lL g).p.getD i 0≤B:=by refine⟨aM (lL g).p (lL g).p.length,fun i hi=>⟨j2 i,?_⟩⟩;exact(aOw (fun i _=>j2 i) _ (Nat.le_refl _) hi).2
  have:=aE6 hB _ (Nat.le_refl _) hi;have:=hwh.2.2;omega
 have hz:0<aM (lL g).p (lL g).p.length:=by rw[hsum];have:=hwh.2.1;omega
 refine⟨hpos,hz,aGm ?_ ?_ hpos hz⟩
 ·obtain⟨a1,a2,a3⟩:=hs;exact⟨oo,oo,oo,oo⟩
 ·show ((lL g).p.length:Int)=g.w/2*(g.h/2);rw[hlen,e4,hW,hH,Int.natCast_mul];rw[show ((2*a:Nat):Int)/2=(a:Int) by omega,show ((2*b:Nat):Int)/2=(b:Int) by omega]
theorem aDw{g:bE}(hg:cO g)(hk:(bB g).kind≠0):((bB g).kind=1∨(bB g).kind=2∨(bB g).kind=3)∧dI (bS g (bB g)).p∧0<aM (bS g (bB g)).p (bS g (bB g)).p.length∧cO (cC (bS g (bB g))):=by
 have key:∀c,bB g=c→c.kind≠0→(c.kind=1∨c.kind=2∨c.kind=3)∧dI (bS g c).p∧0<aM (bS g c).p (bS g c).p.length∧cO (cC (bS g c)):=by
  intro c hc hk;unfold bB at hc;split at hc
  ·rename_i h;subst hc;exact⟨.inr (.inl rfl),aVm hg h.2.2.2 ⟨h.2.1,h.2.2.1⟩⟩
  ·split at hc
   ·rename_i h;subst hc;exact⟨.inl rfl,bB5 hg h.2.2.2⟩
   ·split at hc
    ·subst hc;exact⟨.inr (.inr rfl),aTc hg⟩
    ·subst hc;exact absurd rfl hk
 exact key _ rfl hk
section
variable {W H:Nat} {f:List Int}
theorem aIm{n:jZ}(h:gW n)(r:Int):gW (qM n r):=by obtain⟨h1,h2,h3⟩:=h;exact⟨by unfold qM;dsimp only;omega,h2,h3⟩
theorem aIi{g:bE}{n:jZ}{z:Int}{l:List Int}(hn:gW n)(h:oK W H f g n z=some l):l.length=g.p.length∧Wt l∧∀i,i<l.length→1≤l.getD i 0:=by
 unfold oK at h;dsimp only at h;split at h
 ·cases h
 ·injection h with h;have hl:l.length=g.p.length:=by rw[← h];exact eP _ _
  have hv:=aIm hn (xO (nL W H f ((dM g).1/256) ((dM g).2/256) 1)/4);have key:∀i,i<l.length→1≤l.getD i 0∧l.getD i 0≤65536:=fun i hi=>by rw[← h,mT _ oo];have h1:=aIl hv (lI W H f (g.x+aU g.w i*g.st) (g.y+aT g.w i*g.st)-z);obtain⟨-,h2,-⟩:=hv;split<;>omega
  exact⟨hl,fun i hi=>by have:=key i hi;omega,fun i hi=>(key i hi).1⟩
end
structure zO(s:aL):Prop where
 g:cO s.g
 b:0≤s.bk.b∧s.bk.b≤1099511627776
theorem aLv:∀(k:Nat) {s:aL},zO s→zO (dY k s)∧((dY k s).cf=s.cf∧(dY k s).ln=s.ln∧(dY k s).p=s.p∧(dY k s).w=s.w∧(dY k s).mode=s.mode∧(dY k s).x=s.x∧(dY k s).y=s.y)∧(dY k s).deeds.length≤s.deeds.length+k
 | 0,s,h=>⟨h,⟨rfl,rfl,rfl,rfl,rfl,rfl,rfl⟩,Nat.le_refl _⟩
 | k+1,s,h=>by
  rw[dY];dsimp only;split
  ·exact⟨h,⟨rfl,rfl,rfl,rfl,rfl,rfl,rfl⟩,oo⟩
  ·rename_i hk;obtain⟨hc,hp,hz,ho⟩:=aDw h.g hk;have hln:=ho.len;have hcost:0≤cT ((cC (bS s.g (bB s.g))).w*(cC (bS s.g (bB s.g))).h)∧cT ((cC (bS s.g (bB s.g))).w*(cC (bS s.g (bB s.g))).h)≤4194400:=rV (by rw[← ho.2.1];omega);have hs0:0≤aM s.g.p s.g.p.length:=by have:=h.g.2.2.2.1;have:=h.g.len;omega
   obtain⟨b,hb,hb1⟩:∃b,(if (bB s.g).kind=1 then dO s.bk s.bk.b (2*cT ((cC (bS s.g (bB s.g))).w*(cC (bS s.g (bB s.g))).h))else if (bB s.g).kind=2 then dO s.bk s.bk.b (cT ((cC (bS s.g (bB s.g))).w*(cC (bS s.g (bB s.g))).h))else dO s.bk (jD s.bk.b 1 (aM s.g.p s.g.p.length) (aM (bS s.g (bB s.g)).p (bS s.g (bB s.g)).p.length)) (cT ((cC (bS s.g (bB s.g))).w*(cC (bS s.g (bB s.g))).h)))=b∧0≤b.b∧b.b≤1099511627776:=by
    have hb0:=h.b;have hsc:=zA (b:=s.bk.b) (most:=1) (s:=aM s.g.p s.g.p.length) (z:=aM (bS s.g (bB s.g)).p (bS s.g (bB s.g)).p.length) hb0 od hs0;generalize cT ((cC (bS s.g (bB s.g))).w*(cC (bS s.g (bB s.g))).h)=co at *;refine⟨_,rfl,?_⟩;split
    ·exact sG ⟨hb0,oo⟩
    ·split
     ·exact sG ⟨hb0,oo⟩
     ·exact sG ⟨hsc,oo⟩
   rw[hb];have hstep:zO { s with g:=cC (bS s.g (bB s.g)),bk:=b,deeds:=s.deeds++[⟨4,cE,0,0,0,[],bB s.g⟩] }:=⟨ho,hb1⟩;obtain⟨r1,⟨r2,r3,r4,r5,r6,r7,r8⟩,r9⟩:=aLv k hstep;exact⟨r1,⟨r2,r3,r4,r5,r6,r7,r8⟩,by refine Nat.le_trans r9 ?_;show (s.deeds++[(⟨4,cE,0,0,0,[],bB s.g⟩:nP)]).length+k≤_;rw[List.length_append,List.length_singleton];omega⟩
def mZ(s:Ln):Prop:=s.ok∧(0≤s.throw∧s.throw≤100)∧s.threw≤100
theorem aXc(s:Ln)(k:Int):(s.note k).high=s.high∧(s.note k).last=s.last∧(s.note k).jump=s.jump∧(s.note k).threw=s.threw∧(s.note k).throw=s.throw:=by
 unfold Ln.note;repeat' split
 all_goals exact⟨rfl,rfl,rfl,rfl,rfl⟩
theorem mZ.note{s:Ln}(h:mZ s)(k:Int):mZ (s.note k):=by obtain⟨e1,e2,e3,e4,e5⟩:=aXc s k;unfold mZ Ln.ok at h ⊢;rw[e1,e2,e3,e4,e5];exact h
theorem zI:(-4294967296:Int)≤0∧(0:Int)≤4294967296:=by decide
theorem mZ.radar{s:Ln}(h:mZ s)(time:Int){a:Int}(ha : -2147483648≤a∧a<2147483648):mZ (s.radar time a).1∧(-4294967296≤(s.radar time a).2.2.1∧(s.radar time a).2.2.1≤4294967296):=by
 unfold Ln.radar;have h0:=h;obtain⟨⟨i1,i2,i3,i4,i5,i6,i7⟩,⟨i8,i9⟩,i10⟩:=h0;split
 ·exact⟨h.note 2,zI⟩
 split
 ·exact⟨h.note 3,zI⟩
 split
 ·split
  ·refine⟨mZ.note ?_ 4,zI⟩;exact⟨⟨i1,i2,i3,i4,i5,by show 0≤s.threw+1;omega,by show s.threw+1≤1000;omega⟩,⟨i8,i9⟩,by show s.threw+1≤100;omega⟩
  ·refine⟨mZ.note ?_ 5,by show -4294967296≤s.high-a;omega,by show s.high-a≤4294967296;omega⟩;exact⟨⟨i1,i2,by show -4294967296≤s.high-a;omega,by show s.high-a≤4294967296;omega,i5,(by decide:(0:Int)≤0),(by decide:(0:Int)≤1000)⟩,⟨i8,i9⟩,(by decide:(0:Int)≤100)⟩
 ·refine⟨mZ.note ?_ 0,by show -4294967296≤s.high-a;omega,by show s.high-a≤4294967296;omega⟩;exact⟨⟨i1,i2,by show -4294967296≤s.high-a;omega,by show s.high-a≤4294967296;omega,i5,(by decide:(0:Int)≤0),(by decide:(0:Int)≤1000)⟩,⟨i8,i9⟩,(by decide:(0:Int)≤100)⟩
theorem mZ.order{s:Ln}(h:mZ s)(seq time:Int):mZ (s.order seq time):=by
 unfold Ln.order;split
 ·exact h
 ·exact h
theorem mZ.take{s:Ln}(h:mZ s)(kind seq time:Int){a:Int}(ha : -2147483648≤a∧a<2147483648):mZ (s.take kind seq time a).1∧(-4294967296≤(s.take kind seq time a).2.2.1∧(s.take kind seq time a).2.2.1≤4294967296):=by
 unfold Ln.take;split
 ·exact⟨h.note 2,zI⟩
 split
 ·exact⟨h.note 1,zI⟩
 split
 ·refine⟨mZ.note ?_ 0,zI⟩;obtain⟨⟨i1,i2,i3,i4,i5,i6,i7⟩,i8,i9⟩:=h.order seq time;exact⟨⟨ha.1,ha.2,i3,i4,i5,i6,i7⟩,i8,i9⟩
 split
 ·exact(h.order seq time).radar time ha
 ·exact⟨(h.order seq time).note 6,zI⟩
structure lQ(p:lB):Prop where
 len:p.l.length=64
 first:p.first<64
 n:p.n≤64
 at_:(-16777216≤p.x∧p.x≤16777216)∧(-16777216≤p.y∧p.y≤16777216)
 gap:0≤p.gap∧p.gap≤1048576
 all:∀i,i<64→((-16777216≤(p.l.getD i default).dx∧(p.l.getD i default).dx≤16777216)∧(-16777216≤(p.l.getD i default).dy∧(p.l.getD i default).dy≤16777216))∧(-4294967296≤(p.l.getD i default).z∧(p.l.getD i default).z≤4294967296)
theorem vX(gap:Int):lQ (eY gap):=by
 refine⟨List.length_replicate ..,by show 0<64;decide,by show 0≤64;decide,⟨⟨by show (-16777216:Int)≤0;decide,by show (0:Int)≤16777216;decide⟩,by show (-16777216:Int)≤0;decide,by show (0:Int)≤16777216;decide⟩,⟨by show 0≤min (max gap 0) 1048576;omega,by show min (max gap 0) 1048576≤1048576;omega⟩,fun i hi=>?_⟩;have e:(eY gap).l.getD i default=⟨0,0,0⟩:=by show (List.replicate 64 (⟨0,0,0⟩:cQ)).getD i default=_;rw[List.getD_eq_getElem?_getD,List.getElem?_replicate,if_pos hi];rfl
 rw[e];decide
theorem lQ.move{p:lB}(h:lQ p)(dx dy:Int):lQ (pC p dx dy).1:=by
 unfold pC;split
 ·exact h
 split
 ·exact h
 ·rename_i h1 h2;unfold xK at h2;exact⟨h.len,h.first,h.n,⟨by show _≤p.x+dx∧p.x+dx≤_;omega,by show _≤p.y+dy∧p.y+dy≤_;omega⟩,h.gap,h.all⟩
theorem aOm(l:List cQ)(j:Nat)(v:cQ)(hj:j<l.length)(n:Nat):(l.set j v).getD n default=if j=n then v else l.getD n default:=by
 rw[List.getD_eq_getElem?_getD,List.getElem?_set];split
 ·rfl
 ·rw[← List.getD_eq_getElem?_getD]
theorem lQ.add{p:lB}(h:lQ p){z:Int}(hz : -4294967296≤z∧z≤4294967296):lQ (kX p z):=by
 have hl:=h.len;have hn:=h.n;unfold kX;split
 ·exact h
 split
 ·have hj:((p.first+1)%64+63)%64<64:=Nat.mod_lt _ od;refine⟨by show (p.l.set _ _).length=64;rw[List.length_set];exact hl,Nat.mod_lt _ od,hn,h.at_,h.gap,fun i hi=>?_⟩;show (_∧_)∧_;rw[aOm _ _ _ oo];split
  ·exact⟨h.at_,hz⟩
  ·exact h.all i hi
 ·have hj:(p.first+p.n)%64<64:=Nat.mod_lt _ od;refine⟨by show (p.l.set _ _).length=64;rw[List.length_set];exact hl,h.first,by show p.n+1≤64;omega,h.at_,h.gap,fun i hi=>?_⟩;show (_∧_)∧_;rw[aOm _ _ _ oo];split
  ·exact⟨h.at_,hz⟩
  ·exact h.all i hi
theorem aA2(p:lB):∀i,(lV p i).length=i
 | 0=>rfl
 | i+1=>by rw[lV,List.length_append,aA2 p i];rfl
