import Derived.Test.YtbhchphfmhmabaaGreatP28
import Derived.Test.YtbhchphfmhmabaaGreatP29
set_option maxHeartbeats 512000000
set_option maxRecDepth 4000
set_option linter.unusedVariables false
set_option linter.unusedSimpArgs false
namespace Go.Proofs.YtbhchphfmhmabaaGreat
open Go.RowKit
theorem aW6{W H:Nat}{f:List Int}{s:dV}{l:List cK}{m times:Int}(h:sM W H f s l m times=0):cH (sN W H f s l m times):=by obtain⟨-,-,h3,h4,-,h6,h7,-⟩:=aW7 h;exact⟨h3,h4,h6,h7⟩
theorem aHh(z s:Int):∀(k:Nat) (lo hi:Int),0≤lo→lo≤hi→hi≤640→0≤qF z s k lo hi∧qF z s k lo hi≤640
 | 0,lo,hi,h1,h2,h3=>by rw[qF];omega
 | k+1,lo,hi,h1,h2,h3=>by
  rw[qF];split
  ·split
   ·exact aHh z s k _ _ oo oo h3
   ·exact aHh z s k _ _ h1 oo oo
  ·omega
theorem bB9(z s:Int):0≤tW z s∧tW z s≤640:=by
 unfold tW;split
 ·decide
 ·exact aHh z s 641 0 640 od od od
structure rP(w:pK)(k:Nat):Prop where
 len:w.l.length=32
 all:∀i,0≤w.l.getD i 0∧w.l.getD i 0≤640
 n:0≤w.n∧w.n≤k
 miss:0≤w.miss∧w.miss≤k
theorem aDt(k:Nat):rP jH k:=by
 refine⟨List.length_replicate ..,fun i=>?_,⟨Int.le_refl _,by show (0:Int)≤k;omega⟩,⟨Int.le_refl _,by show (0:Int)≤k;omega⟩⟩;have e:jH.l.getD i 0=0:=by show (List.replicate 32 (0:Int)).getD i 0=0;rw[List.getD_eq_getElem?_getD,List.getElem?_replicate];split<;>rfl
 rw[e];decide
theorem rP.found{c:dF}(hc:1≤c.over∧c.over≤32){w:pK}{k:Nat}(h:rP w k)(z s:Int):rP (nF c w z s) (k+1):=by
 have hl:=h.len;have hn:=h.n;have hj:(w.n%c.over).toNat<w.l.length:=by have:=Int.emod_lt_of_pos w.n (show 0<c.over by omega);have:=Int.emod_nonneg w.n (show c.over≠0 by omega);omega
 refine⟨by show (w.l.set _ _).length=32;rw[List.length_set];exact hl,fun i=>?_,⟨by show 0≤w.n+1;omega,by show w.n+1≤((k+1:Nat):Int);omega⟩,⟨Int.le_refl _,by show (0:Int)≤((k+1:Nat):Int);omega⟩⟩;show _∧_;have e:(nF c w z s).l.getD i 0=if (w.n%c.over).toNat=i then tW z s else w.l.getD i 0:=aDi _ _ _ hj i;rw[e];split
 ·exact bB9 z s
 ·exact h.all i
theorem rP.up{w:pK}{k j:Nat}(h:rP w k)(hj:k≤j):rP w j:=⟨h.len,h.all,⟨h.n.1,by have:=h.n.2;omega⟩,⟨h.miss.1,by have:=h.miss.2;omega⟩⟩
theorem rP.missed{w:pK}{k:Nat}(h:rP w k):rP { w with miss:=w.miss+1 } (k+1):=⟨h.len,h.all,⟨h.n.1,by have:=h.n.2;show w.n≤((k+1:Nat):Int);omega⟩,⟨by have:=h.miss.1;show 0≤w.miss+1;omega,by have:=h.miss.2;show w.miss+1≤((k+1:Nat):Int);omega⟩⟩
theorem qP{c:dF}(h:oR c=0):mP c∧lZ c∧jV c.noi∧((1≤c.far∧c.far≤15)∧(64≤c.step∧c.step≤2048)∧(0≤c.gap∧c.gap≤65536)∧2≤c.need∧c.need≤64)∧((0≤c.meas∧c.meas≤3)∧(0≤c.away∧c.away≤30)∧(1≤c.num∧c.num≤1048576)∧1≤c.den∧c.den≤1048576)∧(1≤c.times∧c.times≤65536)∧0≤c.spread∧c.spread≤85:=by
 unfold oR at h;split at h
 ·cases h
 split at h
 ·cases h
 split at h
 ·cases h
 split at h
 ·cases h
 split at h
 ·cases h
 split at h
 ·cases h
 rename_i h1 h2 h3 h4 h5 h6;exact⟨Classical.not_not.1 h1,Classical.not_not.1 h2,Classical.not_not.1 h3,oo,oo,oo⟩
def mN(g:bE)(k:Nat):Prop:=(-137438953472-17179869184*(k:Int)≤g.x∧g.x≤137438953472+17179869184*(k:Int))∧(-137438953472-17179869184*(k:Int)≤g.y∧g.y≤137438953472+17179869184*(k:Int))
theorem aMx{g:bE}(hg:cH g)(hk:(aW g).kind≠0):(g.x-262144≤(bN g (aW g)).x∧(bN g (aW g)).x≤g.x+262144)∧(g.y-262144≤(bN g (aW g)).y∧(bN g (aW g)).y≤g.y+262144):=by
 have key:∀c,aW g=c→c.kind≠0→(g.x-262144≤(bN g c).x∧(bN g c).x≤g.x+262144)∧(g.y-262144≤(bN g c).y∧(bN g c).y≤g.y+262144):=by
  intro c hc hk;obtain⟨hl0,hl1⟩:=hg.len;obtain⟨W,H,hW,hH,hW1,hH1,hn⟩:=oW hg;obtain⟨t,ht,e,hb,-⟩:=zJ hg.2.2 hl0 hl1;obtain⟨⟨-,-,s1,s2⟩,-,-⟩:=hg;unfold aW at hc;split at hc
  ·subst hc;show (_≤g.x+g.st/2∧g.x+g.st/2≤_)∧(_≤g.y+g.st/2∧g.y+g.st/2≤_);omega
  ·split at hc
   ·subst hc;show (_≤g.x-g.st/4∧g.x-g.st/4≤_)∧(_≤g.y-g.st/4∧g.y-g.st/4≤_);omega
   ·split at hc
    ·subst hc;show (_≤g.x+(dB g).x*g.st∧g.x+(dB g).x*g.st≤_)∧(_≤g.y+(dB g).y*g.st∧g.y+(dB g).y*g.st≤_);obtain⟨c1,c2,c3,c4⟩:=oD (W:=W) oo t;have c5:t/W<H:=rF oo;have hz1:(0:Int)≤((t/W:Nat):Int):=Int.natCast_nonneg _;have hz2:(0:Int)≤((t%W:Nat):Int):=Int.natCast_nonneg _;have ex : -64≤(dB g).x∧(dB g).x≤64:=by unfold dB;rw[e,hW,show (max ((t:Nat):Int) 0).toNat=t by omega];dsimp only;rw[c1];omega
     have ey : -64≤(dB g).y∧(dB g).y≤64:=by unfold dB;rw[e,hW,hH,show (max ((t:Nat):Int) 0).toNat=t by omega];dsimp only;rw[c2];omega
     have m1:=gY 64 4096 (a:=(dB g).x) (b:=g.st) oo oo;have m2:=gY 64 4096 (a:=(dB g).y) (b:=g.st) oo oo;generalize (dB g).x*g.st=a at *;generalize (dB g).y*g.st=b at *;omega
    ·subst hc;exact absurd rfl hk
 exact key _ rfl hk
theorem aL3:∀(k:Nat) {s:aK},yR s→((s.g.x-262144*(k:Int)≤(dR k s).g.x∧(dR k s).g.x≤s.g.x+262144*(k:Int))∧(s.g.y-262144*(k:Int)≤(dR k s).g.y∧(dR k s).g.y≤s.g.y+262144*(k:Int)))∧(s.bk.n≤(dR k s).bk.n∧(dR k s).bk.n≤s.bk.n+k)∧(dR k s).tries=s.tries∧(dR k s).seq=s.seq∧(dR k s).time=s.time∧(dR k s).ins=s.ins∧(dR k s).modes=s.modes
 | 0,s,h=>by
  rw[dR];exact⟨⟨oo,oo⟩,oo,rfl,rfl,rfl,rfl,rfl⟩
 | k+1,s,h=>by
  rw[dR];dsimp only;split
  ·exact⟨⟨oo,oo⟩,oo,rfl,rfl,rfl,rfl,rfl⟩
  ·rename_i hk;obtain⟨hc,hp,hz,ho⟩:=aDd h.g hk;obtain⟨f1,f2⟩:=aMx h.g hk;have hcost:0≤cM ((bX (bN s.g (aW s.g))).w*(bX (bN s.g (aW s.g))).h)∧cM ((bX (bN s.g (aW s.g))).w*(bX (bN s.g (aW s.g))).h)≤4194400:=qR (by have:=ho.len;rw[← ho.2.1];omega);have hs0:0≤aL s.g.p s.g.p.length:=by have:=h.g.2.2.2.1;have:=h.g.len;omega
   obtain⟨b,hb,hb1,hb2⟩:∃b,(if (aW s.g).kind=1 then dC s.bk s.bk.b (2*cM ((bX (bN s.g (aW s.g))).w*(bX (bN s.g (aW s.g))).h))else if (aW s.g).kind=2 then dC s.bk s.bk.b (cM ((bX (bN s.g (aW s.g))).w*(bX (bN s.g (aW s.g))).h))else dC s.bk (gL s.bk.b 1 (aL s.g.p s.g.p.length) (aL (bN s.g (aW s.g)).p (bN s.g (aW s.g)).p.length)) (cM ((bX (bN s.g (aW s.g))).w*(bX (bN s.g (aW s.g))).h)))=b∧(0≤b.b∧b.b≤1099511627776)∧b.n=s.bk.n+1:=by
    have hb0:=h.b;have hsc:=yE (b:=s.bk.b) (most:=1) (s:=aL s.g.p s.g.p.length) (z:=aL (bN s.g (aW s.g)).p (bN s.g (aW s.g)).p.length) hb0 od hs0;generalize cM ((bX (bN s.g (aW s.g))).w*(bX (bN s.g (aW s.g))).h)=co at *;refine⟨_,rfl,?_⟩;split
    ·exact⟨rD ⟨hb0,oo⟩,rfl⟩
    ·split
     ·exact⟨rD ⟨hb0,oo⟩,rfl⟩
     ·exact⟨rD ⟨hsc,oo⟩,rfl⟩
   rw[hb];have hstep:yR { s with g:=bX (bN s.g (aW s.g)),bk:=b,deeds:=s.deeds++[⟨4,bW,0,0,0,[],aW s.g⟩] }:=⟨ho,hb1⟩;obtain⟨⟨r1,r2⟩,r3,r4,r5,r6,r7,r8⟩:=aL3 k hstep;have e1:(bX (bN s.g (aW s.g))).x=(bN s.g (aW s.g)).x:=rfl;have e2:(bX (bN s.g (aW s.g))).y=(bN s.g (aW s.g)).y:=rfl;dsimp only at r1 r2 r3;rw[e1]at r1;rw[e2]at r2;rw[hb2]at r3;generalize dR k { s with g:=bX (bN s.g (aW s.g)),bk:=b,deeds:=s.deeds++[⟨4,bW,0,0,0,[],aW s.g⟩] } = o at *;refine⟨⟨?_,?_⟩,?_,r4,r5,r6,r7,r8⟩
   ·push_cast;omega
   ·push_cast;omega
   ·push_cast;omega
structure cS(s:aK)(k:Nat):Prop where
 cf:oR s.cf=0
 ln:lY s.ln
 p:kU s.p
 w:rP s.w k
 mode:0≤s.mode∧s.mode≤4
 xy:bG .i64 s.x∧bG .i64 s.y
 g:fG s.mode=true→cH s.g∧mN s.g k
 b:0≤s.bk.b∧s.bk.b≤1099511627776
 bn:0≤s.bk.n∧s.bk.n≤6*(k:Int)
 tr:0≤s.tries∧s.tries≤k
 seq:0≤s.seq∧s.seq≤65535
 time:bG .u32 s.time
 len:s.ins.length=s.modes.length∧s.modes.length≤k
 dl:s.deeds.length≤6*k
theorem mN.up{g:bE}{k j:Nat}(h:mN g k)(hj:k≤j):mN g j:=by unfold mN at *;omega
theorem cS.up{s:aK}{k j:Nat}(h:cS s k)(hj:k≤j):cS s j :=
 ⟨h.cf,h.ln,h.p,h.w.up hj,h.mode,h.xy,fun e=>⟨(h.g e).1,(h.g e).2.up hj⟩,h.b,⟨h.bn.1,by have:=h.bn.2;omega⟩,⟨h.tr.1,by have:=h.tr.2;omega⟩,h.seq,h.time,⟨h.len.1,by have:=h.len.2;omega⟩,by have:=h.dl;omega⟩
theorem aLt{c:dF}{x y:Int}(hc:oR c=0)(h:kT x y=true):cS (qA c x y) 0:=by
 have hx:=of_decide_eq_true h;obtain⟨⟨r1,⟨r2,r3⟩,⟨r4,r5⟩,r6,r7⟩,-⟩:=qP hc;refine⟨hc,?_,vC _,aDt 0,⟨by show (0:Int)≤0;decide,by show (0:Int)≤4;decide⟩,?_,fun e=>?_,⟨by show (0:Int)≤0;decide,by show (0:Int)≤1099511627776;decide⟩,⟨by show (0:Int)≤0;decide,by show (0:Int)≤6*((0:Nat):Int);decide⟩,⟨by show (0:Int)≤0;decide,by show (0:Int)≤((0:Nat):Int);decide⟩,⟨by show (0:Int)≤0;decide,by show (0:Int)≤65535;decide⟩,by show bG .u32 0;decide,⟨rfl,Nat.le_refl _⟩,Nat.le_refl _⟩
 ·exact⟨⟨by show (-2147483648:Int)≤0;decide,by show (0:Int)<2147483648;decide,by show (-4294967296:Int)≤0;decide,by show (0:Int)≤4294967296;decide,r2,by show (0:Int)≤0;decide,by show (0:Int)≤1000;decide⟩,⟨r4,r5⟩,by show (0:Int)≤100;decide⟩
 ·exact⟨by show (-9223372036854775808:Int)≤x∧x≤9223372036854775807;omega,by show (-9223372036854775808:Int)≤y∧y≤9223372036854775807;omega⟩
 ·exact absurd e (by show ¬fG 0=true;decide)
theorem aOb{s:aK}{k:Nat}(h:cS s k):cS (cR s).1 k :=
 ⟨h.cf,h.ln,h.p,h.w,h.mode,h.xy,h.g,h.b,h.bn,h.tr,⟨by show 0≤(s.seq+1)%65536;omega,by show (s.seq+1)%65536≤65535;omega⟩,h.time,h.len,h.dl⟩
theorem aBa{x:Int}(h : -9223372036854775808≤x∧x≤9223372036854775807):IntKind.i64.wrap x=x:=by rw[IntKind.wrap_i64];omega
theorem bAy{s:aK}{k:Nat}(h:cS s k)(hh:fG s.mode=true){dx dy:Int}(hd:(-2147483648≤dx∧dx≤2147483647)∧(-2147483648≤dy∧dy≤2147483647))(hk:k≤16777216):cS (qD s dx dy) (k+1):=by
 obtain⟨hg,hf⟩:=h.g hh;obtain⟨-,-,-,-,-,-,q⟩:=qP h.cf;obtain⟨-,-,ho⟩:=aNu hg q dx dy;have hcost:=qR (n:=(bX (lC (jQ s.g dx dy) s.cf.spread)).w*(bX (lC (jQ s.g dx dy) s.cf.spread)).h) (by have:=ho.len;rw[← ho.2.1];omega);have hb:=h.b;have hbn:=h.bn;have hp:=rD (k:=s.bk) (b:=s.bk.b) (more:=3*cM ((bX (lC (jQ s.g dx dy) s.cf.spread)).w*(bX (lC (jQ s.g dx dy) s.cf.spread)).h)) ⟨hb,oo⟩;unfold mN at hf;have fx:(qD s dx dy).g.x=IntKind.i64.wrap (s.g.x+dx):=rfl;have fy:(qD s dx dy).g.y=IntKind.i64.wrap (s.g.y+dy):=rfl;rw[aBa oo]at fx fy;have hw:=h.w.up (Nat.le_succ k);have htr:=h.tr;have hlen:=h.len;have hdl:=h.dl;refine⟨h.cf,h.ln,h.p,hw,h.mode,h.xy,fun _=>⟨ho,?_⟩,hp,⟨by show 0≤s.bk.n+1;omega,by show s.bk.n+1≤6*((k+1:Nat):Int);omega⟩,⟨htr.1,by show s.tries≤((k+1:Nat):Int);omega⟩,h.seq,h.time,⟨hlen.1,by show s.modes.length≤k+1;omega⟩,?_⟩
 ·unfold mN;rw[fx,fy];omega
 ·show (s.deeds++[_]).length≤6*(k+1);rw[List.length_append,List.length_singleton];omega
theorem aBl(a b:Int):bG .i64 (fT a b):=by
 unfold fT;split
 ·split
  ·decide
  ·decide
 ·rw[IntKind.wrap_i64];show (-9223372036854775808:Int)≤_∧_≤(9223372036854775807:Int);omega
theorem aLo{s:aK}{k:Nat}(h:cS s k){dx dy:Int}(hd:(-2147483648≤dx∧dx≤2147483647)∧(-2147483648≤dy∧dy≤2147483647))(hk:k≤16777216):cS (kA s dx dy).1 (k+1)∧(kA s dx dy).1.mode=s.mode∧(kA s dx dy).1.modes.length=s.modes.length:=by
 have h1:cS { s with x:=fT s.x dx,y:=fT s.y dy,sat:=s.sat||fU s.x dx||fU s.y dy,sums:=IntKind.i64.wrap (IntKind.i64.wrap (s.sums+1)+1) } k:=⟨h.cf,h.ln,h.p,h.w,h.mode,⟨aBl _ _,aBl _ _⟩,h.g,h.b,h.bn,h.tr,h.seq,h.time,h.len,h.dl⟩;have em:({ s with x:=fT s.x dx,y:=fT s.y dy,sat:=s.sat||fU s.x dx||fU s.y dy,sums:=IntKind.i64.wrap (IntKind.i64.wrap (s.sums+1)+1) }:aK).mode=s.mode:=rfl;have el:({ s with x:=fT s.x dx,y:=fT s.y dy,sat:=s.sat||fU s.x dx||fU s.y dy,sums:=IntKind.i64.wrap (IntKind.i64.wrap (s.sums+1)+1) }:aK).modes=s.modes:=rfl;unfold kA;generalize ({ s with x:=fT s.x dx,y:=fT s.y dy,sat:=s.sat||fU s.x dx||fU s.y dy,sums:=IntKind.i64.wrap (IntKind.i64.wrap (s.sums+1)+1) }:aK)=t at *;dsimp only;rw[← em,← el];split
 ·exact⟨h1.up (Nat.le_succ k),rfl,rfl⟩
 ·dsimp only;split
  ·refine⟨?_,rfl,rfl⟩;have hm:=h1.p.move dx dy;have hn:=vC t.p.gap;have h2:=h1.up (Nat.le_succ k);exact⟨h2.cf,h2.ln,by show kU (if (nQ t.p dx dy).2 then (nQ t.p dx dy).1 else eD t.p.gap);split<;>assumption,h2.w,h2.mode,h2.xy,h2.g,h2.b,h2.bn,h2.tr,h2.seq,h2.time,h2.len,h2.dl⟩
  ·split
   ·rename_i hh;exact⟨bAy h1 hh hd hk,rfl,rfl⟩
   ·exact⟨h1.up (Nat.le_succ k),rfl,rfl⟩
section
variable {W H:Nat} {f:List Int}
theorem aHs{s:aK}{k:Nat}(h:cS s k)(hh:fG s.mode=true)(z:Int)(hk:k≤16777216):cS (gE W H f s z).1 (k+1)∧(gE W H f s z).1.mode=s.mode∧(gE W H f s z).1.modes.length=s.modes.length∧(gE W H f s z).1.next=s.next:=by
 obtain⟨hg,hf⟩:=h.g hh;obtain⟨-,⟨-,-,hov,-⟩,hno,-⟩:=qP h.cf;have h2:=h.up (Nat.le_succ k);unfold gE;cases hl:rH W H f s.g s.cf.noi z with
 | none=>exact⟨⟨h2.cf,h2.ln,h2.p,h.w.missed,h2.mode,h2.xy,h2.g,h2.b,h2.bn,h2.tr,h2.seq,h2.time,h2.len,h2.dl⟩,rfl,rfl,rfl⟩
 | some l =>
  dsimp only;obtain⟨l1,l2,l3⟩:=aHu hno hl;obtain⟨hz,ho⟩:=aHt hg l2 l1 l3;have hln:=hg.len;have hcost:=qR (n:=(l.length:Int)) oo;have hs0:0≤aL s.g.p s.g.p.length:=by have:=hg.2.2.2.1;omega
  have hb:=h.b;have hsc:=yE (b:=s.bk.b) (most:=gI l l.length) (s:=aL s.g.p s.g.p.length) (z:=cB s.g.p l s.g.p.length) hb (zG l2 _ (Nat.le_refl _)).1 hs0;have hp:=rD (k:=s.bk) (b:=gL s.bk.b (gI l l.length) (aL s.g.p s.g.p.length) (cB s.g.p l s.g.p.length)) (more:=cM l.length) ⟨hsc,oo⟩;have hw:=h.w.found hov (cB s.g.p l s.g.p.length) (aL s.g.p s.g.p.length);obtain⟨s1,hs1⟩:∃x,({ s with void:=false,w:=nF s.cf s.w (cB s.g.p l s.g.p.length) (aL s.g.p s.g.p.length),g:={ s.g with p:=jC s.g.p l },bk:=dC s.bk (gL s.bk.b (gI l l.length) (aL s.g.p s.g.p.length) (cB s.g.p l s.g.p.length)) (cM l.length),deeds:=s.deeds++[⟨3,bW,0,0,0,l,⟨0,0,0,0,0⟩⟩] }:aK)=x:=⟨_,rfl⟩;have hlay:yR s1:=by rw[← hs1];exact⟨ho,hp⟩
  obtain⟨⟨r1,r2⟩,⟨c1,c2,c3,c4,c5,c6,c7⟩,c8⟩:=aL4 4 hlay;obtain⟨⟨f1,f2⟩,f3,f4,f5,f6,f7,f8⟩:=aL3 4 hlay;have hnext:(dR 4 s1).next=s1.next:=layN_next 4 s1;rw[hs1];have e1:s1.cf=s.cf:=by rw[← hs1]
  have e2:s1.ln=s.ln:=by rw[← hs1]
  have e3:s1.p=s.p:=by rw[← hs1]
  have e4:s1.w=nF s.cf s.w (cB s.g.p l s.g.p.length) (aL s.g.p s.g.p.length):=by rw[← hs1]
  have e5:s1.mode=s.mode:=by rw[← hs1]
  have e6:s1.x=s.x:=by rw[← hs1]
  have e7:s1.y=s.y:=by rw[← hs1]
  have e8:s1.deeds.length=s.deeds.length+1:=by rw[← hs1];simp
  have e9:s1.g.x=s.g.x∧s1.g.y=s.g.y:=by rw[← hs1];exact⟨rfl,rfl⟩
  have e10:s1.bk.n=s.bk.n+1:=by rw[← hs1];rfl
  have e11:s1.tries=s.tries∧s1.seq=s.seq∧s1.time=s.time∧s1.ins=s.ins∧s1.modes=s.modes∧s1.next=s.next:=by rw[← hs1];exact⟨rfl,rfl,rfl,rfl,rfl,rfl⟩
  clear hs1;generalize dR 4 s1=o at *;obtain⟨e11,e12,e13,e14,e15,e16⟩:=e11;have hdl:=h.dl;have hbn:=h.bn;unfold mN at hf;refine⟨⟨by rw[c1,e1];exact h2.cf,by rw[c2,e2];exact h2.ln,by rw[c3,e3];exact h2.p,by rw[c4,e4];exact hw,by rw[c5,e5];exact h2.mode,by rw[c6,c7,e6,e7];exact h2.xy,fun _=>⟨r1,?_⟩,r2,oo,by rw[f4,e11];exact h2.tr,by rw[f5,e12];exact h2.seq,by rw[f6,e13];exact h2.time,by rw[f7,f8,e14,e15];exact h2.len,oo⟩,by rw[c5,e5],by rw[f8,e15],by rw[hnext,e16]⟩;unfold mN;omega
where
 layN_next:∀(k:Nat) (s:aK),(dR k s).next=s.next
  | 0,_=>rfl
  | k+1,s=>by
   rw[dR];dsimp only;split
   ·rfl
   ·exact layN_next k _
theorem aVq{s:aK}{k:Nat}(h:cS s k)(hw:kT s.x s.y=true):cS (mV W H f s).1 (k+1)∧(mV W H f s).1.mode=s.mode∧(mV W H f s).1.modes.length=s.modes.length∧((mV W H f s).2.clear=true→cH (mV W H f s).1.next∧mN (mV W H f s).1.next 0):=by
 have hx:=of_decide_eq_true hw;obtain⟨-,-,-,⟨c1,c2,-⟩,-⟩:=qP h.cf;have h2:=h.up (Nat.le_succ k);have htr:=h.tr;unfold mV;dsimp only;split
 ·rename_i hc;have hm:=gY 15 2048 (a:=s.cf.far) (b:=s.cf.step) oo oo;have e1:X0 s.x s.cf.far s.cf.step=s.x-s.cf.far*s.cf.step:=by unfold X0;rw[aBa (x:=s.cf.far*s.cf.step) oo,aBa oo]
  have e2:X0 s.y s.cf.far s.cf.step=s.y-s.cf.far*s.cf.step:=by unfold X0;rw[aBa (x:=s.cf.far*s.cf.step) oo,aBa oo]
  refine⟨⟨h2.cf,h2.ln,h2.p,h2.w,h2.mode,h2.xy,h2.g,h2.b,h2.bn,h2.tr,h2.seq,h2.time,h2.len,h2.dl⟩,rfl,rfl,fun _=>⟨aW6 hc.2.2,?_⟩⟩;show (_≤X0 s.x s.cf.far s.cf.step∧X0 s.x s.cf.far s.cf.step≤_)∧(_≤X0 s.y s.cf.far s.cf.step∧X0 s.y s.cf.far s.cf.step≤_);rw[e1,e2];omega
 ·exact⟨⟨h2.cf,h2.ln,vC _,h2.w,h2.mode,h2.xy,h2.g,h2.b,h2.bn,⟨by show 0≤s.tries+1;omega,by show s.tries+1≤((k+1:Nat):Int);omega⟩,h2.seq,h2.time,h2.len,h2.dl⟩,rfl,rfl,fun e=>absurd e (by show ¬(false=true);decide)⟩
theorem aKd{s:aK}{k:Nat}(h:cS s k)(hw:kT s.x s.y=true){z:Int}(hz : -4294967296≤z∧z≤4294967296)(hk:k≤16777216):cS (kL W H f s z).1 (k+1)∧(kL W H f s z).1.mode=s.mode∧(kL W H f s z).1.modes.length=s.modes.length∧((kL W H f s z).2.clear=true→cH (kL W H f s z).1.next∧mN (kL W H f s z).1.next 0):=by
 unfold kL;split
 ·have h1:cS { s with p:=kB s.p z } k:=⟨h.cf,h.ln,h.p.add hz,h.w,h.mode,h.xy,h.g,h.b,h.bn,h.tr,h.seq,h.time,h.len,h.dl⟩;dsimp only;split
  ·exact aVq h1 hw
  ·exact⟨h1.up (Nat.le_succ k),rfl,rfl,fun e=>absurd e (by show ¬(false=true);decide)⟩
 ·split
  ·rename_i hh;obtain⟨r1,r2,r3,r4⟩:=aHs (W:=W) (H:=H) (f:=f) h hh z hk;refine⟨r1,r2,r3,fun e=>absurd e ?_⟩;show ¬(gE W H f s z).2.clear=true;unfold gE;split<;>(show ¬(false=true);decide)
  ·exact⟨h.up (Nat.le_succ k),rfl,rfl,fun e=>absurd e (by show ¬(false=true);decide)⟩
theorem aLv{m:Int}(hm:0≤m∧m≤4)(i:jJ):(0≤(eT m i).1∧(eT m i).1≤4)∧((eT m i).2=2→i.clear=true)∧(fG (eT m i).1=true→(eT m i).2=2∨(eT m i).2=0∧fG m=true):=by
 have hd:∀x:Int,fG x=true↔x=2∨x=3:=fun x=>by unfold fG;exact decide_eq_true_iff
 rw[hd,hd];unfold eT xU;repeat' split
 all_goals try dsimp only
 all_goals refine⟨oo,fun e=>?_,fun e=>?_⟩
 all_goals first
  | assumption
  | omega
theorem aDj{s:aK}{k:Nat}(h:cS s k)(i:jJ)(say:Bool)(hl:s.modes.length+1≤k)(hn:i.clear=true→cH s.next∧mN s.next 0):cS (gM s i say).1 k:=by
 obtain⟨n1,n2,n3⟩:=aLv h.mode i;have hlen:=h.len;have hs2:∀t:aK,cS t k→cS (if say∨(eT s.mode i).1≠s.mode then cR t else (t,[])).1 k:=fun t ht=>by
  split
  ·exact aOb ht
  ·exact ht
 have l1:(s.ins++[i]).length=(s.modes++[(eT s.mode i).1]).length∧(s.modes++[(eT s.mode i).1]).length≤k:=by rw[List.length_append,List.length_append,List.length_singleton,List.length_singleton];omega
 unfold gM;dsimp only;refine hs2 _ ?_;split
 ·rename_i hw;refine⟨h.cf,h.ln,vC _,h.w,n1,h.xy,fun e=>?_,h.b,h.bn,⟨by show (0:Int)≤0;decide,by show (0:Int)≤k;omega⟩,h.seq,h.time,l1,Nat.zero_le _⟩;rcases n3 e with q|q<;>omega
 split
 ·rename_i hw;obtain⟨g1,g2⟩:=hn (n2 hw);exact⟨h.cf,h.ln,h.p,aDt k,n1,h.xy,fun _=>⟨g1,g2.up (Nat.zero_le k)⟩,⟨by show (0:Int)≤0;decide,by show (0:Int)≤1099511627776;decide⟩,⟨by show (0:Int)≤0;decide,by show (0:Int)≤6*(k:Int);omega⟩,h.tr,h.seq,h.time,l1,by show 1≤6*k;omega⟩
 split
 ·rename_i hw;refine⟨h.cf,h.ln,h.p,h.w,n1,h.xy,fun e=>?_,h.b,h.bn,h.tr,h.seq,h.time,l1,Nat.zero_le _⟩;rcases n3 e with q|q<;>omega
 ·rename_i w1 w2 w3;refine⟨h.cf,h.ln,h.p,h.w,n1,h.xy,fun e=>?_,h.b,h.bn,h.tr,h.seq,h.time,l1,h.dl⟩;rcases n3 e with q|q
  ·exact absurd q w2
  ·exact h.g q.2
theorem bBj{s:aK}{k:Nat}(h:cS s k)(hw:s.mode≠4→kT s.x s.y=true){x:lM}(hx:x.ok)(hk:k≤16777216):cS (nW W H f s x).1 (k+1):=by
 obtain⟨-,-,ht,ha,hb,-⟩:=hx;have ha1 : -2147483648≤x.a∧x.a≤2147483647:=ha;have hb1 : -2147483648≤x.b∧x.b≤2147483647:=hb;unfold nW;split
 ·exact(aOb h).up (Nat.le_succ k)
 ·rename_i hm;obtain⟨t1,t2⟩:=h.ln.take x.kind x.seq x.time (a:=x.a) oo;have hlen:=h.len;dsimp only;generalize s.ln.take x.kind x.seq x.time x.a=t at *;have h1:cS { s with ln:=t.1 } k:=⟨h.cf,t1,h.p,h.w,h.mode,h.xy,h.g,h.b,h.bn,h.tr,h.seq,h.time,h.len,h.dl⟩;have hw1:=hw hm;have timed:∀{o:aK} {j:Nat},cS o j→cS { o with time:=x.time } j:=fun ho=>⟨ho.cf,ho.ln,ho.p,ho.w,ho.mode,ho.xy,ho.g,ho.b,ho.bn,ho.tr,ho.seq,ht,ho.len,ho.dl⟩;split
  ·obtain⟨r1,r2,r3,r4⟩:=aKd (W:=W) (H:=H) (f:=f) h1 hw1 t2 hk;exact aDj (timed r1) _ _ (by show (kL W H f { s with ln:=t.1 } t.2.2.1).1.modes.length+1≤k+1;rw[r3];show s.modes.length+1≤k+1;omega) r4
  split
  ·exact h1.up (Nat.le_succ k)
  ·split
   ·obtain⟨r1,r2,r3⟩:=aLo h1 (dx:=x.a) (dy:=x.b) ⟨ha1,hb1⟩ hk;refine aDj (timed r1) _ _ (by show (kA { s with ln:=t.1 } x.a x.b).1.modes.length+1≤k+1;rw[r3];show s.modes.length+1≤k+1;omega) (fun e=>absurd e ?_);unfold kA;dsimp only;split<;>(show ¬(false=true);decide)
   ·split
    ·exact aDj (timed (h1.up (Nat.le_succ k))) _ _ (by show s.modes.length+1≤k+1;omega) (fun e=>absurd e (by show ¬(false=true);decide))
    ·exact aDj (timed (h1.up (Nat.le_succ k))) _ _ (by show s.modes.length+1≤k+1;omega) (fun e=>absurd e (by show ¬(false=true);decide))
end
def aI6(s t:aK):Prop:=(t.ins=s.ins∧t.modes=s.modes∧t.mode=s.mode)∨∃i,t.ins=s.ins++[i]∧t.modes=s.modes++[(eT s.mode i).1]∧t.mode=(eT s.mode i).1
def aA3(t:aK)(out:List lM):Prop:=out=[]∨out=[⟨7,t.seq,t.time,t.mode,pP t,0⟩]∨∃c,out=[⟨7,t.seq,t.time,t.mode,pP t,0⟩,c]∧t.mode=2∧pP t=0∧qQ t=some c
theorem aOc(s:aK):aA3 (cR s).1 (cR s).2:=by
 unfold cR;dsimp only;split
 ·rename_i h;cases hc:qQ { s with seq:=(s.seq+1)%65536 } with
  | none=>exact .inr (.inl rfl)
  | some c=>exact .inr (.inr ⟨c,rfl,h.1,h.2,hc⟩)
 ·exact .inr (.inl rfl)
theorem aNi(s:aK)(i:jJ)(say:Bool):((gM s i say).1.ins=s.ins++[i]∧(gM s i say).1.modes=s.modes++[(eT s.mode i).1]∧(gM s i say).1.mode=(eT s.mode i).1∧(gM s i say).1.x=s.x∧(gM s i say).1.y=s.y)∧aA3 (gM s i say).1 (gM s i say).2:=by
 have key:∀t:aK,(t.ins=s.ins++[i]∧t.modes=s.modes++[(eT s.mode i).1]∧t.mode=(eT s.mode i).1∧t.x=s.x∧t.y=s.y)→(((if say∨(eT s.mode i).1≠s.mode then cR t else (t,[])).1.ins=s.ins++[i]∧(if say∨(eT s.mode i).1≠s.mode then cR t else (t,[])).1.modes=s.modes++[(eT s.mode i).1]∧(if say∨(eT s.mode i).1≠s.mode then cR t else (t,[])).1.mode=(eT s.mode i).1∧(if say∨(eT s.mode i).1≠s.mode then cR t else (t,[])).1.x=s.x∧(if say∨(eT s.mode i).1≠s.mode then cR t else (t,[])).1.y=s.y)∧aA3 (if say∨(eT s.mode i).1≠s.mode then cR t else (t,[])).1 (if say∨(eT s.mode i).1≠s.mode then cR t else (t,[])).2):=by
  intro t ht;split
  ·exact⟨ht,aOc t⟩
  ·exact⟨ht,.inl rfl⟩
 unfold gM;dsimp only;refine key _ ?_;repeat' split
 all_goals exact⟨rfl,rfl,rfl,rfl,rfl⟩
section
variable {W H:Nat} {f:List Int}
theorem aL5:∀(k:Nat) (s:aK),(dR k s).ins=s.ins∧(dR k s).modes=s.modes∧(dR k s).mode=s.mode∧(dR k s).x=s.x∧(dR k s).y=s.y
 | 0,_=>⟨rfl,rfl,rfl,rfl,rfl⟩
 | k+1,s=>by
  rw[dR];dsimp only;split
  ·exact⟨rfl,rfl,rfl,rfl,rfl⟩
  ·exact aL5 k _
theorem aFe(s:aK)(z:Int):(kL W H f s z).1.ins=s.ins∧(kL W H f s z).1.modes=s.modes∧(kL W H f s z).1.mode=s.mode∧(kL W H f s z).1.x=s.x∧(kL W H f s z).1.y=s.y:=by
 unfold kL;split
 ·dsimp only;split
  ·unfold mV;dsimp only;split<;>exact⟨rfl,rfl,rfl,rfl,rfl⟩
  ·exact⟨rfl,rfl,rfl,rfl,rfl⟩
 ·split
  ·dsimp only;unfold gE;split
   ·exact⟨rfl,rfl,rfl,rfl,rfl⟩
   ·exact aL5 4 _
  ·exact⟨rfl,rfl,rfl,rfl,rfl⟩
theorem aG1(s:aK)(dx dy:Int):(kA s dx dy).1.ins=s.ins∧(kA s dx dy).1.modes=s.modes∧(kA s dx dy).1.mode=s.mode∧((kA s dx dy).2.broken=false→kT (kA s dx dy).1.x (kA s dx dy).1.y=true):=by
 unfold kA;dsimp only;split
 ·exact⟨rfl,rfl,rfl,fun e=>absurd e (by show ¬(true=false);decide)⟩
 ·rename_i h;rw[Bool.or_eq_true,not_or]at h;have hw:kT (fT s.x dx) (fT s.y dy)=true:=by have:=h.2;simpa using this
  repeat' split
  all_goals exact⟨rfl,rfl,rfl,fun _=>hw⟩
theorem bBk(s:aK)(x:lM):aI6 s (nW W H f s x).1∧aA3 (nW W H f s x).1 (nW W H f s x).2:=by
 unfold nW;split
 ·exact⟨.inl ⟨rfl,rfl,rfl⟩,aOc s⟩
 ·dsimp only;generalize s.ln.take x.kind x.seq x.time x.a=t;have key:∀(o:aK) (i:jJ) (say:Bool),o.ins=s.ins→o.modes=s.modes→o.mode=s.mode→aI6 s (gM { o with time:=x.time } i say).1∧aA3 (gM { o with time:=x.time } i say).1 (gM { o with time:=x.time } i say).2:=by
   intro o i say e1 e2 e3;obtain⟨⟨q1,q2,q3,-,-⟩,q4⟩:=aNi { o with time:=x.time } i say;refine⟨.inr ⟨i,?_,?_,?_⟩,q4⟩
   ·rw[q1];show o.ins++[i]=_;rw[e1]
   ·rw[q2];show o.modes++[(eT o.mode i).1]=_;rw[e2,e3]
   ·rw[q3];show (eT o.mode i).1=_;rw[e3]
  split
  ·obtain⟨g1,g2,g3,-,-⟩:=aFe (W:=W) (H:=H) (f:=f) { s with ln:=t.1 } t.2.2.1;exact key _ _ _ g1 g2 g3
  split
  ·exact⟨.inl ⟨rfl,rfl,rfl⟩,.inl rfl⟩
  ·split
   ·obtain⟨g1,g2,g3,-⟩:=aG1 { s with ln:=t.1 } x.a x.b;exact key _ _ _ g1 g2 g3
   ·split
    ·exact key _ _ _ rfl rfl rfl
    ·exact key _ _ _ rfl rfl rfl
theorem bBi{s:aK}(hw:s.mode≠4→kT s.x s.y=true)(hm:0≤s.mode∧s.mode≤4)(x:lM):(nW W H f s x).1.mode≠4→kT (nW W H f s x).1.x (nW W H f s x).1.y=true:=by
 unfold nW;split
 ·rename_i h;exact fun e=>absurd h e
 ·rename_i h;dsimp only;generalize s.ln.take x.kind x.seq x.time x.a=t;have hw1:=hw h;have key:∀(o:aK) (i:jJ) (say:Bool),o.mode=s.mode→(i.broken=false→kT o.x o.y=true)→((gM { o with time:=x.time } i say).1.mode≠4→kT (gM { o with time:=x.time } i say).1.x (gM { o with time:=x.time } i say).1.y=true):=by
   intro o i say e1 e2 e3;obtain⟨⟨-,-,q3,q4,q5⟩,-⟩:=aNi { o with time:=x.time } i say;rw[q4,q5];refine e2 ?_;cases hb:i.broken with
   | false=>rfl
   | true =>
    exfalso;refine e3 ?_;rw[q3];show (eT o.mode i).1=4;unfold eT;rw[if_pos (.inr (.inr (.inl hb)))]
  split
  ·obtain⟨-,-,g3,g4,g5⟩:=aFe (W:=W) (H:=H) (f:=f) { s with ln:=t.1 } t.2.2.1;exact key _ _ _ g3 (fun _=>by rw[g4,g5];exact hw1)
  split
  ·exact fun _=>hw1
  ·split
   ·obtain⟨-,-,g3,g4⟩:=aG1 { s with ln:=t.1 } x.a x.b;exact key _ _ _ g3 g4
   ·split
    ·exact key _ _ _ rfl (fun _=>hw1)
    ·exact key _ _ _ rfl (fun _=>hw1)
end
theorem pF{p:List Int}{f:Nat→Int}{F:Int}(hp:dY p)(hf:∀i,i<p.length→0≤f i∧f i≤F):∀n,n≤p.length→0≤bO p f n∧bO p f n≤F*aL p n
 | 0,_=>by simp[bO,aL]
 | n+1,hn=>by have ih:=pF hp hf n oo;have h1:=hp n oo;have h2:=hf n oo;have h3:=Int.mul_nonneg h1.1 h2.1;have h4:=Int.mul_le_mul_of_nonneg_left h2.2 h1.1;rw[bO,aL,Int.mul_add,Int.mul_comm F (p.getD n 0)];omega
theorem aLs{S s st M:Int}(hs:0<s)(hS:0≤S)(hM:S*st≤M*s)(hst:0≤st):0≤cP (S*st) s 2∧cP (S*st) s 2≤M:=by
 rw[yY hs];have h0:=Int.mul_nonneg hS hst;refine⟨Int.ediv_nonneg oo oo,Int.le_of_lt_add_one (Int.ediv_lt_of_lt_mul oo ?_)⟩;have e:(M+1)*(2*s)=2*(M*s)+2*s:=by rw[Int.add_mul,Int.one_mul,Int.mul_left_comm]
 rw[e];omega
theorem aW3{g:bE}(hg:cH g):(g.x≤(fP g).1∧(fP g).1≤g.x+(g.w-1)*g.st)∧(g.y≤(fP g).2∧(fP g).2≤g.y+(g.h-1)*g.st):=by
 obtain⟨W,H,hW,hH,hW1,hH1,hn⟩:=oW hg;have hln:=hg.len;obtain⟨⟨-,-,s1,-⟩,-,hp,hs,-⟩:=hg;have hs0:0<aL g.p g.p.length:=oo;have hc:∀i,i<g.p.length→0≤aY g.w i∧aY g.w i≤g.w-1:=fun i hi=>by obtain⟨c1,-,-,c4⟩:=oD (W:=W) oo i;rw[hW,c1];have:=Int.natCast_nonneg (i%W);omega
 have hr:∀i,i<g.p.length→0≤aV g.w i∧aV g.w i≤g.h-1:=fun i hi=>by obtain⟨-,c2,-,-⟩:=oD (W:=W) oo i;have c5:i/W<H:=rF oo;rw[hW,hH,c2];have:=Int.natCast_nonneg (i/W);omega
 have x1:=pF hp hc g.p.length (Nat.le_refl _);have y1:=pF hp hr g.p.length (Nat.le_refl _);have mx:bO g.p (aY g.w) g.p.length*g.st≤(g.w-1)*g.st*aL g.p g.p.length:=by rw[Int.mul_right_comm];exact Int.mul_le_mul_of_nonneg_right x1.2 oo
 have my:bO g.p (aV g.w) g.p.length*g.st≤(g.h-1)*g.st*aL g.p g.p.length:=by rw[Int.mul_right_comm];exact Int.mul_le_mul_of_nonneg_right y1.2 oo
 have a1:=aLs hs0 x1.1 mx oo;have a2:=aLs hs0 y1.1 my oo;unfold fP;dsimp only;omega
theorem aSc{s:aK}{c:lM}(h:qQ s=some c):c.kind=6∧s.x+c.a=(fP s.g).1∧s.y+c.b=(fP s.g).2∧pO c.a∧pO c.b:=by
 unfold qQ at h;dsimp only at h;split at h
 ·rename_i hc;injection h with h;subst h;exact⟨rfl,by show s.x+((fP s.g).1-s.x)=_;omega,by show s.y+((fP s.g).2-s.y)=_;omega,hc.2.2.2.2.1,hc.2.2.2.2.2.1⟩
 ·cases h
theorem aNz{p:List Int}(hp:dY p)(f:Nat→Int)(c:Int):∀n,n≤p.length→0≤bO p (fun i=>f i*f i) n-2*(bO p f n*c)+aL p n*(c*c)
 | 0,_=>by simp[bO,aL]
 | n+1,hn=>by
  have ih:=aNz hp f c n oo;have h1:=hp n oo;have hsq:0≤(f n-c)*(f n-c):=by
   rcases Int.le_total 0 (f n-c) with h|h
   ·exact Int.mul_nonneg h h
   ·exact Int.mul_nonneg_of_nonpos_of_nonpos h h
  have h2:=Int.mul_nonneg h1.1 hsq;rw[bO,bO,aL];have e:p.getD n 0*((f n-c)*(f n-c))=p.getD n 0*(f n*f n)-2*(p.getD n 0*f n*c)+p.getD n 0*(c*c):=by
   generalize p.getD n 0=P;generalize f n=F;have e1:(F-c)*(F-c)=F*F-2*(F*c)+c*c:=by rw[Int.sub_mul,Int.mul_sub,Int.mul_sub,Int.mul_comm c F];omega
   rw[e1,Int.mul_add,Int.mul_sub,Int.mul_left_comm P 2,← Int.mul_assoc P F c]
  rw[e]at h2;rw[Int.add_mul,Int.add_mul];omega
theorem aNy{p:List Int}(hp:dY p)(f:Nat→Int):∀n,n≤p.length→0≤aL p n*bO p (fun i=>f i*f i) n-bO p f n*bO p f n
 | 0,_=>by simp[bO,aL]
 | n+1,hn=>by
  have ih:=aNy hp f n oo;have h1:=hp n oo;have h2:=Int.mul_nonneg h1.1 (aNz hp f (f n) n oo);rw[bO,bO,aL];generalize p.getD n 0=P at *;generalize f n=F at *;generalize aL p n=S at *;generalize bO p (fun i=>f i*f i) n=B at *;generalize bO p f n=A at *;have e:(S+P)*(B+P*(F*F))-(A+P*F)*(A+P*F)=(S*B-A*A)+P*(B-2*(A*F)+S*(F*F)):=by
   have a1:(S+P)*(B+P*(F*F))=S*B+S*(P*(F*F))+(P*B+P*(P*(F*F))):=by rw[Int.add_mul,Int.mul_add,Int.mul_add]
   have a2:(A+P*F)*(A+P*F)=A*A+A*(P*F)+(P*F*A+P*F*(P*F)):=by rw[Int.add_mul,Int.mul_add,Int.mul_add]
   have a3:P*(B-2*(A*F)+S*(F*F))=P*B-2*(P*(A*F))+P*(S*(F*F)):=by rw[Int.mul_add,Int.mul_sub,Int.mul_left_comm P 2]
   have b1:P*(S*(F*F))=S*(P*(F*F)):=Int.mul_left_comm ..;have b2:A*(P*F)=P*(A*F):=Int.mul_left_comm ..;have b3:P*F*A=P*(A*F):=by rw[Int.mul_assoc,Int.mul_comm F A]
   have b4:P*F*(P*F)=P*(P*(F*F)):=by rw[Int.mul_assoc,Int.mul_left_comm F P F]
   rw[a1,a2,a3,b1,b2,b3,b4];omega
  rw[e];omega
theorem aJm{g:bE}(hg:cH g){f:Nat→Int}(hf:∀i,i<g.p.length→0≤f i∧f i≤63):
  (0≤bO g.p f g.p.length∧bO g.p f g.p.length≤67645734912)∧(0≤bO g.p (fun i=>f i*f i) g.p.length∧bO g.p (fun i=>f i*f i) g.p.length≤4261681299456) ∧
  (0≤pN (aL g.p g.p.length) (bO g.p (fun i=>f i*f i) g.p.length) (bO g.p f g.p.length) (bO g.p f g.p.length)∧pN (aL g.p g.p.length) (bO g.p (fun i=>f i*f i) g.p.length) (bO g.p f g.p.length) (bO g.p f g.p.length)≤260112384):=by
 have hln:=hg.len;obtain⟨-,-,hp,hs,hs1⟩:=hg;have h1:=pF hp hf g.p.length (Nat.le_refl _);have h2:=pF (f:=fun i=>f i*f i) (F:=3969) hp (fun i hi=>cT (hf i hi) (hf i hi)) g.p.length (Nat.le_refl _);have h3:=aNy hp f g.p.length (Nat.le_refl _);refine⟨oo,oo,?_⟩;unfold pN;generalize bO g.p (fun i=>f i*f i) g.p.length=B at *;generalize bO g.p f g.p.length=A at *;generalize aL g.p g.p.length=S at *;have hS:0<S:=oo;have hAA:0≤A*A:=Int.mul_nonneg h1.1 h1.1;have hSB:S*B≤S*(3969*S):=Int.mul_le_mul_of_nonneg_left h2.2 oo;generalize hX:S*B-A*A=X at *;have hX1:X≤3969*S*S:=by rw[Int.mul_comm (3969*S) S];omega
 have d1:0≤X*65536/S:=Int.ediv_nonneg oo oo;have d2:X*65536/S≤260112384*S:=Int.ediv_le_of_le_mul hS (by
  have e:260112384*S*S=65536*(3969*S*S):=by rw[show (260112384:Int)=65536*3969 by decide,Int.mul_assoc (65536*3969) S S,Int.mul_assoc 65536 3969,Int.mul_assoc 3969 S S]
  rw[e];omega)
 exact⟨Int.ediv_nonneg d1 oo,Int.ediv_le_of_le_mul hS d2⟩
theorem aOh{g:bE}(hg:cH g):(0≤nD g∧nD g≤260112384)∧(0≤nE g∧nE g≤260112384):=by
 obtain⟨W,H,hW,hH,hW1,hH1,hn⟩:=oW hg;have hc:∀i,i<g.p.length→0≤aY g.w i∧aY g.w i≤63:=fun i hi=>by obtain⟨c1,-,-,c4⟩:=oD (W:=W) oo i;rw[hW,c1];have:=Int.natCast_nonneg (i%W);omega
 have hr:∀i,i<g.p.length→0≤aV g.w i∧aV g.w i≤63:=fun i hi=>by obtain⟨-,c2,-,-⟩:=oD (W:=W) oo i;have c5:i/W<H:=rF oo;rw[hW,c2];have:=Int.natCast_nonneg (i/W);omega
 exact⟨(aJm hg hc).2.2,(aJm hg hr).2.2⟩
theorem bBb{g:bE}(hg:cH g):(0≤(nD g+nE g)*(g.st*g.st)∧(nD g+nE g)*(g.st*g.st)≤8727923301285888)∧(0≤cP ((nD g+nE g)*(g.st*g.st)) 65536 1∧cP ((nD g+nE g)*(g.st*g.st)) 65536 1≤133177540608)∧lV (cP ((nD g+nE g)*(g.st*g.st)) 65536 1).toNat 32=gB (cP ((nD g+nE g)*(g.st*g.st)) 65536 1).toNat:=by obtain⟨x,y⟩:=aOh hg;obtain⟨⟨-,-,s1,s2⟩,-⟩:=hg;have h1:=cT (show 0≤g.st∧g.st≤4096 by omega) (show 0≤g.st∧g.st≤4096 by omega);have h2:=cT (show 0≤nD g+nE g∧nD g+nE g≤520224768 by omega) h1;generalize (nD g+nE g)*(g.st*g.st)=m at *;have e:cP m 65536 1=(m+65536-1)/65536:=aAj h2.1 od;refine⟨oo,by rw[e];omega,aNv ?_⟩;rw[e];omega
