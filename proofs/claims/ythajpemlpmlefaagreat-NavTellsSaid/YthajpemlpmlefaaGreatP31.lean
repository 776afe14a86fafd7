import Derived.Test.YthajpemlpmlefaaGreatP29
import Derived.Test.YthajpemlpmlefaaGreatP30
set_option maxHeartbeats 512000000
set_option maxRecDepth 4000
set_option linter.unusedVariables false
set_option linter.unusedSimpArgs false
namespace Go.Proofs.YthajpemlpmlefaaGreat
open Go.RowKit
theorem mk_grd{W H:Nat}{f:List Int}{s:Sch}{l:List Smp}{m times:Int}(h:mkC W H f s l m times=0):GrdOk (mkG W H f s l m times):=by
 obtain⟨-,-,h3,h4,-,h6,h7,-⟩:=mk_top h
 exact⟨h3,h4,h6,h7⟩
theorem surTo_in(z s:Int):∀(k:Nat) (lo hi:Int),0≤lo→lo≤hi→hi≤640→0≤surTo z s k lo hi∧surTo z s k lo hi≤640
 | 0,lo,hi,h1,h2,h3=>by rw[surTo];omega
 | k+1,lo,hi,h1,h2,h3=>by
  rw[surTo]
  split
  ·split
   ·exact surTo_in z s k _ _ (by omega) (by omega) h3
   ·exact surTo_in z s k _ _ h1 (by omega) (by omega)
  ·omega
theorem surN_in(z s:Int):0≤surN z s∧surN z s≤640:=by
 unfold surN
 split
 ·decide
 ·exact surTo_in z s 641 0 640 (by decide) (by decide) (by decide)
structure WatOk(w:Wat)(k:Nat):Prop where
 len:w.l.length=32
 all:∀i,0≤w.l.getD i 0∧w.l.getD i 0≤640
 n:0≤w.n∧w.n≤k
 miss:0≤w.miss∧w.miss≤k
theorem wNew_ok(k:Nat):WatOk wNew k:=by
 refine⟨List.length_replicate ..,fun i=>?_,⟨Int.le_refl _,by show (0:Int)≤k;omega⟩,⟨Int.le_refl _,by show (0:Int)≤k;omega⟩⟩
 have e:wNew.l.getD i 0=0:=by
  show (List.replicate 32 (0:Int)).getD i 0=0
  rw[List.getD_eq_getElem?_getD,List.getElem?_replicate]
  split<;>rfl
 rw[e]
 decide
theorem WatOk.found{c:Cnf}(hc:1≤c.over∧c.over≤32){w:Wat}{k:Nat}(h:WatOk w k)(z s:Int):WatOk (wFound c w z s) (k+1):=by
 have hl:=h.len
 have hn:=h.n
 have hj:(w.n%c.over).toNat<w.l.length:=by
  have:=Int.emod_lt_of_pos w.n (show 0<c.over by omega)
  have:=Int.emod_nonneg w.n (show c.over≠0 by omega)
  omega
 refine⟨by show (w.l.set _ _).length=32;rw[List.length_set];exact hl,fun i=>?_,⟨by show 0≤w.n+1;omega,by show w.n+1≤((k+1:Nat):Int);omega⟩,⟨Int.le_refl _,by show (0:Int)≤((k+1:Nat):Int);omega⟩⟩
 show _∧_
 have e:(wFound c w z s).l.getD i 0=if (w.n%c.over).toNat=i then surN z s else w.l.getD i 0:=set_get _ _ _ hj i
 rw[e]
 split
 ·exact surN_in z s
 ·exact h.all i
theorem WatOk.up{w:Wat}{k j:Nat}(h:WatOk w k)(hj:k≤j):WatOk w j:=⟨h.len,h.all,⟨h.n.1,by have:=h.n.2;omega⟩,⟨h.miss.1,by have:=h.miss.2;omega⟩⟩
theorem WatOk.missed{w:Wat}{k:Nat}(h:WatOk w k):WatOk { w with miss:=w.miss+1 } (k+1):=⟨h.len,h.all,⟨h.n.1,by have:=h.n.2;show w.n≤((k+1:Nat):Int);omega⟩,⟨by have:=h.miss.1;show 0≤w.miss+1;omega,by have:=h.miss.2;show w.miss+1≤((k+1:Nat):Int);omega⟩⟩
theorem cnfC_ok{c:Cnf}(h:cnfC c=0):RulesOk c∧MarksOk c∧NoiOk c.noi∧((1≤c.far∧c.far≤15)∧(64≤c.step∧c.step≤2048)∧(0≤c.gap∧c.gap≤65536)∧2≤c.need∧c.need≤64)∧((0≤c.meas∧c.meas≤3)∧(0≤c.away∧c.away≤30)∧(1≤c.num∧c.num≤1048576)∧1≤c.den∧c.den≤1048576)∧(1≤c.times∧c.times≤65536)∧0≤c.spread∧c.spread≤85:=by
 unfold cnfC at h
 split at h
 ·cases h
 split at h
 ·cases h
 split at h
 ·cases h
 split at h
 ·cases h
 split at h
 ·cases h
 split at h
 ·cases h
 rename_i h1 h2 h3 h4 h5 h6
 exact⟨Classical.not_not.1 h1,Classical.not_not.1 h2,Classical.not_not.1 h3,by omega,by omega,by omega⟩
def FarG(g:Grd)(k:Nat):Prop:=(-137438953472-17179869184*(k:Int)≤g.x∧g.x≤137438953472+17179869184*(k:Int))∧(-137438953472-17179869184*(k:Int)≤g.y∧g.y≤137438953472+17179869184*(k:Int))
theorem raw_far{g:Grd}(hg:GrdOk g)(hk:(chooseN g).kind≠0):(g.x-262144≤(rawN g (chooseN g)).x∧(rawN g (chooseN g)).x≤g.x+262144)∧(g.y-262144≤(rawN g (chooseN g)).y∧(rawN g (chooseN g)).y≤g.y+262144):=by
 have key:∀c,chooseN g=c→c.kind≠0→(g.x-262144≤(rawN g c).x∧(rawN g c).x≤g.x+262144)∧(g.y-262144≤(rawN g c).y∧(rawN g c).y≤g.y+262144):=by
  intro c hc hk
  obtain⟨hl0,hl1⟩:=hg.len
  obtain⟨W,H,hW,hH,hW1,hH1,hn⟩:=nat_sides hg
  obtain⟨t,ht,e,hb,-⟩:=pk_top hg.2.2 hl0 hl1
  obtain⟨⟨-,-,s1,s2⟩,-,-⟩:=hg
  unfold chooseN at hc
  split at hc
  ·subst hc
   show (_≤g.x+g.st/2∧g.x+g.st/2≤_)∧(_≤g.y+g.st/2∧g.y+g.st/2≤_)
   omega
  ·split at hc
   ·subst hc
    show (_≤g.x-g.st/4∧g.x-g.st/4≤_)∧(_≤g.y-g.st/4∧g.y-g.st/4≤_)
    omega
   ·split at hc
    ·subst hc
     show (_≤g.x+(centN g).x*g.st∧g.x+(centN g).x*g.st≤_)∧(_≤g.y+(centN g).y*g.st∧g.y+(centN g).y*g.st≤_)
     obtain⟨c1,c2,c3,c4⟩:=col_at (W:=W) (by omega) t
     have c5:t/W<H:=row_lt (by omega)
     have hz1:(0:Int)≤((t/W:Nat):Int):=Int.natCast_nonneg _
     have hz2:(0:Int)≤((t%W:Nat):Int):=Int.natCast_nonneg _
     have ex : -64≤(centN g).x∧(centN g).x≤64:=by
      unfold centN
      rw[e,hW,show (max ((t:Nat):Int) 0).toNat=t by omega]
      dsimp only
      rw[c1]
      omega
     have ey : -64≤(centN g).y∧(centN g).y≤64:=by
      unfold centN
      rw[e,hW,hH,show (max ((t:Nat):Int) 0).toNat=t by omega]
      dsimp only
      rw[c2]
      omega
     have m1:=mulB 64 4096 (a:=(centN g).x) (b:=g.st) (by omega) (by omega)
     have m2:=mulB 64 4096 (a:=(centN g).y) (b:=g.st) (by omega) (by omega)
     generalize (centN g).x*g.st=a at *
     generalize (centN g).y*g.st=b at *
     omega
    ·subst hc
     exact absurd rfl hk
 exact key _ rfl hk
theorem layN_far:∀(k:Nat) {s:NavS},LayOk s→((s.g.x-262144*(k:Int)≤(layN k s).g.x∧(layN k s).g.x≤s.g.x+262144*(k:Int))∧(s.g.y-262144*(k:Int)≤(layN k s).g.y∧(layN k s).g.y≤s.g.y+262144*(k:Int)))∧(s.bk.n≤(layN k s).bk.n∧(layN k s).bk.n≤s.bk.n+k)∧(layN k s).tries=s.tries∧(layN k s).seq=s.seq∧(layN k s).time=s.time∧(layN k s).ins=s.ins∧(layN k s).modes=s.modes
 | 0,s,h=>by
  rw[layN]
  exact⟨⟨by omega,by omega⟩,by omega,rfl,rfl,rfl,rfl,rfl⟩
 | k+1,s,h=>by
  rw[layN]
  dsimp only
  split
  ·exact⟨⟨by omega,by omega⟩,by omega,rfl,rfl,rfl,rfl,rfl⟩
  ·rename_i hk
   obtain⟨hc,hp,hz,ho⟩:=raw_ok h.g hk
   obtain⟨f1,f2⟩:=raw_far h.g hk
   have hcost:0≤costL ((normG (rawN s.g (chooseN s.g))).w*(normG (rawN s.g (chooseN s.g))).h)∧costL ((normG (rawN s.g (chooseN s.g))).w*(normG (rawN s.g (chooseN s.g))).h)≤4194400:=costL_in (by have:=ho.len;rw[← ho.2.1];omega)
   have hs0:0≤sumL s.g.p s.g.p.length:=by have:=h.g.2.2.2.1;have:=h.g.len;omega
   obtain⟨b,hb,hb1,hb2⟩:∃b,(if (chooseN s.g).kind=1 then plusL s.bk s.bk.b (2*costL ((normG (rawN s.g (chooseN s.g))).w*(normG (rawN s.g (chooseN s.g))).h))else if (chooseN s.g).kind=2 then plusL s.bk s.bk.b (costL ((normG (rawN s.g (chooseN s.g))).w*(normG (rawN s.g (chooseN s.g))).h))else plusL s.bk (scaledL s.bk.b 1 (sumL s.g.p s.g.p.length) (sumL (rawN s.g (chooseN s.g)).p (rawN s.g (chooseN s.g)).p.length)) (costL ((normG (rawN s.g (chooseN s.g))).w*(normG (rawN s.g (chooseN s.g))).h)))=b∧(0≤b.b∧b.b≤1099511627776)∧b.n=s.bk.n+1:=by
    have hb0:=h.b
    have hsc:=scaledL_in (b:=s.bk.b) (most:=1) (s:=sumL s.g.p s.g.p.length) (z:=sumL (rawN s.g (chooseN s.g)).p (rawN s.g (chooseN s.g)).p.length) hb0 (by decide) hs0
    generalize costL ((normG (rawN s.g (chooseN s.g))).w*(normG (rawN s.g (chooseN s.g))).h)=co at *
    refine⟨_,rfl,?_⟩
    split
    ·exact⟨plusL_in ⟨hb0,by omega⟩,rfl⟩
    ·split
     ·exact⟨plusL_in ⟨hb0,by omega⟩,rfl⟩
     ·exact⟨plusL_in ⟨hsc,by omega⟩,rfl⟩
   rw[hb]
   have hstep:LayOk { s with g:=normG (rawN s.g (chooseN s.g)),bk:=b,deeds:=s.deeds++[⟨4,grd0,0,0,0,[],chooseN s.g⟩] }:=⟨ho,hb1⟩
   obtain⟨⟨r1,r2⟩,r3,r4,r5,r6,r7,r8⟩:=layN_far k hstep
   have e1:(normG (rawN s.g (chooseN s.g))).x=(rawN s.g (chooseN s.g)).x:=rfl
   have e2:(normG (rawN s.g (chooseN s.g))).y=(rawN s.g (chooseN s.g)).y:=rfl
   dsimp only at r1 r2 r3
   rw[e1]at r1
   rw[e2]at r2
   rw[hb2]at r3
   generalize layN k { s with g:=normG (rawN s.g (chooseN s.g)),bk:=b,deeds:=s.deeds++[⟨4,grd0,0,0,0,[],chooseN s.g⟩] } = o at *
   refine⟨⟨?_,?_⟩,?_,r4,r5,r6,r7,r8⟩
   ·push_cast;omega
   ·push_cast;omega
   ·push_cast;omega
structure NavOk(s:NavS)(k:Nat):Prop where
 cf:cnfC s.cf=0
 ln:LnOk s.ln
 p:PrfOk s.p
 w:WatOk s.w k
 mode:0≤s.mode∧s.mode≤4
 xy:InR .i64 s.x∧InR .i64 s.y
 g:holdsN s.mode=true→GrdOk s.g∧FarG s.g k
 b:0≤s.bk.b∧s.bk.b≤1099511627776
 bn:0≤s.bk.n∧s.bk.n≤6*(k:Int)
 tr:0≤s.tries∧s.tries≤k
 seq:0≤s.seq∧s.seq≤65535
 time:InR .u32 s.time
 len:s.ins.length=s.modes.length∧s.modes.length≤k
 dl:s.deeds.length≤6*k
theorem FarG.up{g:Grd}{k j:Nat}(h:FarG g k)(hj:k≤j):FarG g j:=by
 unfold FarG at *
 omega
theorem NavOk.up{s:NavS}{k j:Nat}(h:NavOk s k)(hj:k≤j):NavOk s j :=
 ⟨h.cf,h.ln,h.p,h.w.up hj,h.mode,h.xy,fun e=>⟨(h.g e).1,(h.g e).2.up hj⟩,h.b,⟨h.bn.1,by have:=h.bn.2;omega⟩,⟨h.tr.1,by have:=h.tr.2;omega⟩,h.seq,h.time,⟨h.len.1,by have:=h.len.2;omega⟩,by have:=h.dl;omega⟩
theorem newN_ok{c:Cnf}{x y:Int}(hc:cnfC c=0)(h:within36 x y=true):NavOk (newN c x y) 0:=by
 have hx:=of_decide_eq_true h
 obtain⟨⟨r1,⟨r2,r3⟩,⟨r4,r5⟩,r6,r7⟩,-⟩:=cnfC_ok hc
 refine⟨hc,?_,pNew_ok _,wNew_ok 0,⟨by show (0:Int)≤0;decide,by show (0:Int)≤4;decide⟩,?_,fun e=>?_,⟨by show (0:Int)≤0;decide,by show (0:Int)≤1099511627776;decide⟩,⟨by show (0:Int)≤0;decide,by show (0:Int)≤6*((0:Nat):Int);decide⟩,⟨by show (0:Int)≤0;decide,by show (0:Int)≤((0:Nat):Int);decide⟩,⟨by show (0:Int)≤0;decide,by show (0:Int)≤65535;decide⟩,by show InR .u32 0;decide,⟨rfl,Nat.le_refl _⟩,Nat.le_refl _⟩
 ·exact⟨⟨by show (-2147483648:Int)≤0;decide,by show (0:Int)<2147483648;decide,by show (-4294967296:Int)≤0;decide,by show (0:Int)≤4294967296;decide,r2,by show (0:Int)≤0;decide,by show (0:Int)≤1000;decide⟩,⟨r4,r5⟩,by show (0:Int)≤100;decide⟩
 ·exact⟨by show (-9223372036854775808:Int)≤x∧x≤9223372036854775807;omega,by show (-9223372036854775808:Int)≤y∧y≤9223372036854775807;omega⟩
 ·exact absurd e (by show ¬holdsN 0=true;decide)
theorem tellN_ok{s:NavS}{k:Nat}(h:NavOk s k):NavOk (tellN s).1 k :=
 ⟨h.cf,h.ln,h.p,h.w,h.mode,h.xy,h.g,h.b,h.bn,h.tr,⟨by show 0≤(s.seq+1)%65536;omega,by show (s.seq+1)%65536≤65535;omega⟩,h.time,h.len,h.dl⟩
theorem wrap_id{x:Int}(h : -9223372036854775808≤x∧x≤9223372036854775807):IntKind.i64.wrap x=x:=by
 rw[IntKind.wrap_i64]
 omega
theorem spreadN_ok{s:NavS}{k:Nat}(h:NavOk s k)(hh:holdsN s.mode=true){dx dy:Int}(hd:(-2147483648≤dx∧dx≤2147483647)∧(-2147483648≤dy∧dy≤2147483647))(hk:k≤16777216):NavOk (spreadN s dx dy) (k+1):=by
 obtain⟨hg,hf⟩:=h.g hh
 obtain⟨-,-,-,-,-,-,q⟩:=cnfC_ok h.cf
 obtain⟨-,-,ho⟩:=spread_ok hg q dx dy
 have hcost:=costL_in (n:=(normG (spreadG (moveG s.g dx dy) s.cf.spread)).w*(normG (spreadG (moveG s.g dx dy) s.cf.spread)).h) (by have:=ho.len;rw[← ho.2.1];omega)
 have hb:=h.b
 have hbn:=h.bn
 have hp:=plusL_in (k:=s.bk) (b:=s.bk.b) (more:=3*costL ((normG (spreadG (moveG s.g dx dy) s.cf.spread)).w*(normG (spreadG (moveG s.g dx dy) s.cf.spread)).h)) ⟨hb,by omega⟩
 unfold FarG at hf
 have fx:(spreadN s dx dy).g.x=IntKind.i64.wrap (s.g.x+dx):=rfl
 have fy:(spreadN s dx dy).g.y=IntKind.i64.wrap (s.g.y+dy):=rfl
 rw[wrap_id (by omega)]at fx fy
 have hw:=h.w.up (Nat.le_succ k)
 have htr:=h.tr
 have hlen:=h.len
 have hdl:=h.dl
 refine⟨h.cf,h.ln,h.p,hw,h.mode,h.xy,fun _=>⟨ho,?_⟩,hp,⟨by show 0≤s.bk.n+1;omega,by show s.bk.n+1≤6*((k+1:Nat):Int);omega⟩,⟨htr.1,by show s.tries≤((k+1:Nat):Int);omega⟩,h.seq,h.time,⟨hlen.1,by show s.modes.length≤k+1;omega⟩,?_⟩
 ·unfold FarG
  rw[fx,fy]
  omega
 ·show (s.deeds++[_]).length≤6*(k+1)
  rw[List.length_append,List.length_singleton]
  omega
theorem addN_in(a b:Int):InR .i64 (addN a b):=by
 unfold addN
 split
 ·split
  ·decide
  ·decide
 ·rw[IntKind.wrap_i64]
  show (-9223372036854775808:Int)≤_∧_≤(9223372036854775807:Int)
  omega
theorem moveN_ok{s:NavS}{k:Nat}(h:NavOk s k){dx dy:Int}(hd:(-2147483648≤dx∧dx≤2147483647)∧(-2147483648≤dy∧dy≤2147483647))(hk:k≤16777216):NavOk (moveN s dx dy).1 (k+1)∧(moveN s dx dy).1.mode=s.mode∧(moveN s dx dy).1.modes.length=s.modes.length:=by
 have h1:NavOk { s with x:=addN s.x dx,y:=addN s.y dy,sat:=s.sat||endN s.x dx||endN s.y dy,sums:=IntKind.i64.wrap (IntKind.i64.wrap (s.sums+1)+1) } k:=⟨h.cf,h.ln,h.p,h.w,h.mode,⟨addN_in _ _,addN_in _ _⟩,h.g,h.b,h.bn,h.tr,h.seq,h.time,h.len,h.dl⟩
 have em:({ s with x:=addN s.x dx,y:=addN s.y dy,sat:=s.sat||endN s.x dx||endN s.y dy,sums:=IntKind.i64.wrap (IntKind.i64.wrap (s.sums+1)+1) }:NavS).mode=s.mode:=rfl
 have el:({ s with x:=addN s.x dx,y:=addN s.y dy,sat:=s.sat||endN s.x dx||endN s.y dy,sums:=IntKind.i64.wrap (IntKind.i64.wrap (s.sums+1)+1) }:NavS).modes=s.modes:=rfl
 unfold moveN
 generalize ({ s with x:=addN s.x dx,y:=addN s.y dy,sat:=s.sat||endN s.x dx||endN s.y dy,sums:=IntKind.i64.wrap (IntKind.i64.wrap (s.sums+1)+1) }:NavS)=t at *
 dsimp only
 rw[← em,← el]
 split
 ·exact⟨h1.up (Nat.le_succ k),rfl,rfl⟩
 ·dsimp only
  split
  ·refine⟨?_,rfl,rfl⟩
   have hm:=h1.p.move dx dy
   have hn:=pNew_ok t.p.gap
   have h2:=h1.up (Nat.le_succ k)
   exact⟨h2.cf,h2.ln,by show PrfOk (if (pMove t.p dx dy).2 then (pMove t.p dx dy).1 else pNew t.p.gap);split<;>assumption,h2.w,h2.mode,h2.xy,h2.g,h2.b,h2.bn,h2.tr,h2.seq,h2.time,h2.len,h2.dl⟩
  ·split
   ·rename_i hh
    exact⟨spreadN_ok h1 hh hd hk,rfl,rfl⟩
   ·exact⟨h1.up (Nat.le_succ k),rfl,rfl⟩
section
variable {W H:Nat} {f:List Int}
theorem weighN_ok{s:NavS}{k:Nat}(h:NavOk s k)(hh:holdsN s.mode=true)(z:Int)(hk:k≤16777216):NavOk (weighN W H f s z).1 (k+1)∧(weighN W H f s z).1.mode=s.mode∧(weighN W H f s z).1.modes.length=s.modes.length∧(weighN W H f s z).1.next=s.next:=by
 obtain⟨hg,hf⟩:=h.g hh
 obtain⟨-,⟨-,-,hov,-⟩,hno,-⟩:=cnfC_ok h.cf
 have h2:=h.up (Nat.le_succ k)
 unfold weighN
 cases hl:weightsN W H f s.g s.cf.noi z with
 | none=>exact⟨⟨h2.cf,h2.ln,h2.p,h.w.missed,h2.mode,h2.xy,h2.g,h2.b,h2.bn,h2.tr,h2.seq,h2.time,h2.len,h2.dl⟩,rfl,rfl,rfl⟩
 | some l =>
  dsimp only
  obtain⟨l1,l2,l3⟩:=weightsN_ok hno hl
  obtain⟨hz,ho⟩:=weigh_ok hg l2 l1 l3
  have hln:=hg.len
  have hcost:=costL_in (n:=(l.length:Int)) (by omega)
  have hs0:0≤sumL s.g.p s.g.p.length:=by have:=hg.2.2.2.1;omega
  have hb:=h.b
  have hsc:=scaledL_in (b:=s.bk.b) (most:=mostTo l l.length) (s:=sumL s.g.p s.g.p.length) (z:=wsTo s.g.p l s.g.p.length) hb (most_in l2 _ (Nat.le_refl _)).1 hs0
  have hp:=plusL_in (k:=s.bk) (b:=scaledL s.bk.b (mostTo l l.length) (sumL s.g.p s.g.p.length) (wsTo s.g.p l s.g.p.length)) (more:=costL l.length) ⟨hsc,by omega⟩
  have hw:=h.w.found hov (wsTo s.g.p l s.g.p.length) (sumL s.g.p s.g.p.length)
  obtain⟨s1,hs1⟩:∃x,({ s with void:=false,w:=wFound s.cf s.w (wsTo s.g.p l s.g.p.length) (sumL s.g.p s.g.p.length),g:={ s.g with p:=wghL s.g.p l },bk:=plusL s.bk (scaledL s.bk.b (mostTo l l.length) (sumL s.g.p s.g.p.length) (wsTo s.g.p l s.g.p.length)) (costL l.length),deeds:=s.deeds++[⟨3,grd0,0,0,0,l,⟨0,0,0,0,0⟩⟩] }:NavS)=x:=⟨_,rfl⟩
  have hlay:LayOk s1:=by rw[← hs1];exact⟨ho,hp⟩
  obtain⟨⟨r1,r2⟩,⟨c1,c2,c3,c4,c5,c6,c7⟩,c8⟩:=layN_ok 4 hlay
  obtain⟨⟨f1,f2⟩,f3,f4,f5,f6,f7,f8⟩:=layN_far 4 hlay
  have hnext:(layN 4 s1).next=s1.next:=layN_next 4 s1
  rw[hs1]
  have e1:s1.cf=s.cf:=by rw[← hs1]
  have e2:s1.ln=s.ln:=by rw[← hs1]
  have e3:s1.p=s.p:=by rw[← hs1]
  have e4:s1.w=wFound s.cf s.w (wsTo s.g.p l s.g.p.length) (sumL s.g.p s.g.p.length):=by rw[← hs1]
  have e5:s1.mode=s.mode:=by rw[← hs1]
  have e6:s1.x=s.x:=by rw[← hs1]
  have e7:s1.y=s.y:=by rw[← hs1]
  have e8:s1.deeds.length=s.deeds.length+1:=by rw[← hs1];simp
  have e9:s1.g.x=s.g.x∧s1.g.y=s.g.y:=by rw[← hs1];exact⟨rfl,rfl⟩
  have e10:s1.bk.n=s.bk.n+1:=by rw[← hs1];rfl
  have e11:s1.tries=s.tries∧s1.seq=s.seq∧s1.time=s.time∧s1.ins=s.ins∧s1.modes=s.modes∧s1.next=s.next:=by rw[← hs1];exact⟨rfl,rfl,rfl,rfl,rfl,rfl⟩
  clear hs1
  generalize layN 4 s1=o at *
  obtain⟨e11,e12,e13,e14,e15,e16⟩:=e11
  have hdl:=h.dl
  have hbn:=h.bn
  unfold FarG at hf
  refine⟨⟨by rw[c1,e1];exact h2.cf,by rw[c2,e2];exact h2.ln,by rw[c3,e3];exact h2.p,by rw[c4,e4];exact hw,by rw[c5,e5];exact h2.mode,by rw[c6,c7,e6,e7];exact h2.xy,fun _=>⟨r1,?_⟩,r2,by omega,by rw[f4,e11];exact h2.tr,by rw[f5,e12];exact h2.seq,by rw[f6,e13];exact h2.time,by rw[f7,f8,e14,e15];exact h2.len,by omega⟩,by rw[c5,e5],by rw[f8,e15],by rw[hnext,e16]⟩
  unfold FarG
  omega
where
 layN_next:∀(k:Nat) (s:NavS),(layN k s).next=s.next
  | 0,_=>rfl
  | k+1,s=>by
   rw[layN]
   dsimp only
   split
   ·rfl
   ·exact layN_next k _
theorem lookN_ok{s:NavS}{k:Nat}(h:NavOk s k)(hw:within36 s.x s.y=true):NavOk (lookN W H f s).1 (k+1)∧(lookN W H f s).1.mode=s.mode∧(lookN W H f s).1.modes.length=s.modes.length∧((lookN W H f s).2.clear=true→GrdOk (lookN W H f s).1.next∧FarG (lookN W H f s).1.next 0):=by
 have hx:=of_decide_eq_true hw
 obtain⟨-,-,-,⟨c1,c2,-⟩,-⟩:=cnfC_ok h.cf
 have h2:=h.up (Nat.le_succ k)
 have htr:=h.tr
 unfold lookN
 dsimp only
 split
 ·rename_i hc
  have hm:=mulB 15 2048 (a:=s.cf.far) (b:=s.cf.step) (by omega) (by omega)
  have e1:X0 s.x s.cf.far s.cf.step=s.x-s.cf.far*s.cf.step:=by unfold X0;rw[wrap_id (x:=s.cf.far*s.cf.step) (by omega),wrap_id (by omega)]
  have e2:X0 s.y s.cf.far s.cf.step=s.y-s.cf.far*s.cf.step:=by unfold X0;rw[wrap_id (x:=s.cf.far*s.cf.step) (by omega),wrap_id (by omega)]
  refine⟨⟨h2.cf,h2.ln,h2.p,h2.w,h2.mode,h2.xy,h2.g,h2.b,h2.bn,h2.tr,h2.seq,h2.time,h2.len,h2.dl⟩,rfl,rfl,fun _=>⟨mk_grd hc.2.2,?_⟩⟩
  show (_≤X0 s.x s.cf.far s.cf.step∧X0 s.x s.cf.far s.cf.step≤_)∧(_≤X0 s.y s.cf.far s.cf.step∧X0 s.y s.cf.far s.cf.step≤_)
  rw[e1,e2]
  omega
 ·exact⟨⟨h2.cf,h2.ln,pNew_ok _,h2.w,h2.mode,h2.xy,h2.g,h2.b,h2.bn,⟨by show 0≤s.tries+1;omega,by show s.tries+1≤((k+1:Nat):Int);omega⟩,h2.seq,h2.time,h2.len,h2.dl⟩,rfl,rfl,fun e=>absurd e (by show ¬(false=true);decide)⟩
theorem groundN_ok{s:NavS}{k:Nat}(h:NavOk s k)(hw:within36 s.x s.y=true){z:Int}(hz : -4294967296≤z∧z≤4294967296)(hk:k≤16777216):NavOk (groundN W H f s z).1 (k+1)∧(groundN W H f s z).1.mode=s.mode∧(groundN W H f s z).1.modes.length=s.modes.length∧((groundN W H f s z).2.clear=true→GrdOk (groundN W H f s z).1.next∧FarG (groundN W H f s z).1.next 0):=by
 unfold groundN
 split
 ·have h1:NavOk { s with p:=pAdd s.p z } k:=⟨h.cf,h.ln,h.p.add hz,h.w,h.mode,h.xy,h.g,h.b,h.bn,h.tr,h.seq,h.time,h.len,h.dl⟩
  dsimp only
  split
  ·exact lookN_ok h1 hw
  ·exact⟨h1.up (Nat.le_succ k),rfl,rfl,fun e=>absurd e (by show ¬(false=true);decide)⟩
 ·split
  ·rename_i hh
   obtain⟨r1,r2,r3,r4⟩:=weighN_ok (W:=W) (H:=H) (f:=f) h hh z hk
   refine⟨r1,r2,r3,fun e=>absurd e ?_⟩
   show ¬(weighN W H f s z).2.clear=true
   unfold weighN
   split<;>(show ¬(false=true);decide)
  ·exact⟨h.up (Nat.le_succ k),rfl,rfl,fun e=>absurd e (by show ¬(false=true);decide)⟩
theorem next_spec{m:Int}(hm:0≤m∧m≤4)(i:Inp):(0≤(nextN m i).1∧(nextN m i).1≤4)∧((nextN m i).2=2→i.clear=true)∧(holdsN (nextN m i).1=true→(nextN m i).2=2∨(nextN m i).2=0∧holdsN m=true):=by
 have hd:∀x:Int,holdsN x=true↔x=2∨x=3:=fun x=>by unfold holdsN;exact decide_eq_true_iff
 rw[hd,hd]
 unfold nextN followN
 repeat' split
 all_goals try dsimp only
 all_goals refine⟨by omega,fun e=>?_,fun e=>?_⟩
 all_goals first
  | assumption
  | omega
theorem settleN_ok{s:NavS}{k:Nat}(h:NavOk s k)(i:Inp)(say:Bool)(hl:s.modes.length+1≤k)(hn:i.clear=true→GrdOk s.next∧FarG s.next 0):NavOk (settleN s i say).1 k:=by
 obtain⟨n1,n2,n3⟩:=next_spec h.mode i
 have hlen:=h.len
 have hs2:∀t:NavS,NavOk t k→NavOk (if say∨(nextN s.mode i).1≠s.mode then tellN t else (t,[])).1 k:=fun t ht=>by
  split
  ·exact tellN_ok ht
  ·exact ht
 have l1:(s.ins++[i]).length=(s.modes++[(nextN s.mode i).1]).length∧(s.modes++[(nextN s.mode i).1]).length≤k:=by
  rw[List.length_append,List.length_append,List.length_singleton,List.length_singleton]
  omega
 unfold settleN
 dsimp only
 refine hs2 _ ?_
 split
 ·rename_i hw
  refine⟨h.cf,h.ln,pNew_ok _,h.w,n1,h.xy,fun e=>?_,h.b,h.bn,⟨by show (0:Int)≤0;decide,by show (0:Int)≤k;omega⟩,h.seq,h.time,l1,Nat.zero_le _⟩
  rcases n3 e with q|q<;>omega
 split
 ·rename_i hw
  obtain⟨g1,g2⟩:=hn (n2 hw)
  exact⟨h.cf,h.ln,h.p,wNew_ok k,n1,h.xy,fun _=>⟨g1,g2.up (Nat.zero_le k)⟩,⟨by show (0:Int)≤0;decide,by show (0:Int)≤1099511627776;decide⟩,⟨by show (0:Int)≤0;decide,by show (0:Int)≤6*(k:Int);omega⟩,h.tr,h.seq,h.time,l1,by show 1≤6*k;omega⟩
 split
 ·rename_i hw
  refine⟨h.cf,h.ln,h.p,h.w,n1,h.xy,fun e=>?_,h.b,h.bn,h.tr,h.seq,h.time,l1,Nat.zero_le _⟩
  rcases n3 e with q|q<;>omega
 ·rename_i w1 w2 w3
  refine⟨h.cf,h.ln,h.p,h.w,n1,h.xy,fun e=>?_,h.b,h.bn,h.tr,h.seq,h.time,l1,h.dl⟩
  rcases n3 e with q|q
  ·exact absurd q w2
  ·exact h.g q.2
theorem takeN_ok{s:NavS}{k:Nat}(h:NavOk s k)(hw:s.mode≠4→within36 s.x s.y=true){x:Frm}(hx:x.ok)(hk:k≤16777216):NavOk (takeN W H f s x).1 (k+1):=by
 obtain⟨-,-,ht,ha,hb,-⟩:=hx
 have ha1 : -2147483648≤x.a∧x.a≤2147483647:=ha
 have hb1 : -2147483648≤x.b∧x.b≤2147483647:=hb
 unfold takeN
 split
 ·exact(tellN_ok h).up (Nat.le_succ k)
 ·rename_i hm
  obtain⟨t1,t2⟩:=h.ln.take x.kind x.seq x.time (a:=x.a) (by omega)
  have hlen:=h.len
  dsimp only
  generalize s.ln.take x.kind x.seq x.time x.a=t at *
  have h1:NavOk { s with ln:=t.1 } k:=⟨h.cf,t1,h.p,h.w,h.mode,h.xy,h.g,h.b,h.bn,h.tr,h.seq,h.time,h.len,h.dl⟩
  have hw1:=hw hm
  have timed:∀{o:NavS} {j:Nat},NavOk o j→NavOk { o with time:=x.time } j:=fun ho=>⟨ho.cf,ho.ln,ho.p,ho.w,ho.mode,ho.xy,ho.g,ho.b,ho.bn,ho.tr,ho.seq,ht,ho.len,ho.dl⟩
  split
  ·obtain⟨r1,r2,r3,r4⟩:=groundN_ok (W:=W) (H:=H) (f:=f) h1 hw1 t2 hk
   exact settleN_ok (timed r1) _ _ (by show (groundN W H f { s with ln:=t.1 } t.2.2.1).1.modes.length+1≤k+1;rw[r3];show s.modes.length+1≤k+1;omega) r4
  split
  ·exact h1.up (Nat.le_succ k)
  ·split
   ·obtain⟨r1,r2,r3⟩:=moveN_ok h1 (dx:=x.a) (dy:=x.b) ⟨ha1,hb1⟩ hk
    refine settleN_ok (timed r1) _ _ (by show (moveN { s with ln:=t.1 } x.a x.b).1.modes.length+1≤k+1;rw[r3];show s.modes.length+1≤k+1;omega) (fun e=>absurd e ?_)
    unfold moveN
    dsimp only
    split<;>(show ¬(false=true);decide)
   ·split
    ·exact settleN_ok (timed (h1.up (Nat.le_succ k))) _ _ (by show s.modes.length+1≤k+1;omega) (fun e=>absurd e (by show ¬(false=true);decide))
    ·exact settleN_ok (timed (h1.up (Nat.le_succ k))) _ _ (by show s.modes.length+1≤k+1;omega) (fun e=>absurd e (by show ¬(false=true);decide))
end
def StepR(s t:NavS):Prop:=(t.ins=s.ins∧t.modes=s.modes∧t.mode=s.mode)∨∃i,t.ins=s.ins++[i]∧t.modes=s.modes++[(nextN s.mode i).1]∧t.mode=(nextN s.mode i).1
def ToldR(t:NavS)(out:List Frm):Prop:=out=[]∨out=[⟨7,t.seq,t.time,t.mode,flagsN t,0⟩]∨∃c,out=[⟨7,t.seq,t.time,t.mode,flagsN t,0⟩,c]∧t.mode=2∧flagsN t=0∧correctN t=some c
theorem tellN_told(s:NavS):ToldR (tellN s).1 (tellN s).2:=by
 unfold tellN
 dsimp only
 split
 ·rename_i h
  cases hc:correctN { s with seq:=(s.seq+1)%65536 } with
  | none=>exact .inr (.inl rfl)
  | some c=>exact .inr (.inr ⟨c,rfl,h.1,h.2,hc⟩)
 ·exact .inr (.inl rfl)
theorem settleN_step(s:NavS)(i:Inp)(say:Bool):((settleN s i say).1.ins=s.ins++[i]∧(settleN s i say).1.modes=s.modes++[(nextN s.mode i).1]∧(settleN s i say).1.mode=(nextN s.mode i).1∧(settleN s i say).1.x=s.x∧(settleN s i say).1.y=s.y)∧ToldR (settleN s i say).1 (settleN s i say).2:=by
 have key:∀t:NavS,(t.ins=s.ins++[i]∧t.modes=s.modes++[(nextN s.mode i).1]∧t.mode=(nextN s.mode i).1∧t.x=s.x∧t.y=s.y)→(((if say∨(nextN s.mode i).1≠s.mode then tellN t else (t,[])).1.ins=s.ins++[i]∧(if say∨(nextN s.mode i).1≠s.mode then tellN t else (t,[])).1.modes=s.modes++[(nextN s.mode i).1]∧(if say∨(nextN s.mode i).1≠s.mode then tellN t else (t,[])).1.mode=(nextN s.mode i).1∧(if say∨(nextN s.mode i).1≠s.mode then tellN t else (t,[])).1.x=s.x∧(if say∨(nextN s.mode i).1≠s.mode then tellN t else (t,[])).1.y=s.y)∧ToldR (if say∨(nextN s.mode i).1≠s.mode then tellN t else (t,[])).1 (if say∨(nextN s.mode i).1≠s.mode then tellN t else (t,[])).2):=by
  intro t ht
  split
  ·exact⟨ht,tellN_told t⟩
  ·exact⟨ht,.inl rfl⟩
 unfold settleN
 dsimp only
 refine key _ ?_
 repeat' split
 all_goals exact⟨rfl,rfl,rfl,rfl,rfl⟩
section
variable {W H:Nat} {f:List Int}
theorem layN_same:∀(k:Nat) (s:NavS),(layN k s).ins=s.ins∧(layN k s).modes=s.modes∧(layN k s).mode=s.mode∧(layN k s).x=s.x∧(layN k s).y=s.y
 | 0,_=>⟨rfl,rfl,rfl,rfl,rfl⟩
 | k+1,s=>by
  rw[layN]
  dsimp only
  split
  ·exact⟨rfl,rfl,rfl,rfl,rfl⟩
  ·exact layN_same k _
theorem groundN_same(s:NavS)(z:Int):(groundN W H f s z).1.ins=s.ins∧(groundN W H f s z).1.modes=s.modes∧(groundN W H f s z).1.mode=s.mode∧(groundN W H f s z).1.x=s.x∧(groundN W H f s z).1.y=s.y:=by
 unfold groundN
 split
 ·dsimp only
  split
  ·unfold lookN
   dsimp only
   split<;>exact⟨rfl,rfl,rfl,rfl,rfl⟩
  ·exact⟨rfl,rfl,rfl,rfl,rfl⟩
 ·split
  ·dsimp only
   unfold weighN
   split
   ·exact⟨rfl,rfl,rfl,rfl,rfl⟩
   ·exact layN_same 4 _
  ·exact⟨rfl,rfl,rfl,rfl,rfl⟩
theorem moveN_same(s:NavS)(dx dy:Int):(moveN s dx dy).1.ins=s.ins∧(moveN s dx dy).1.modes=s.modes∧(moveN s dx dy).1.mode=s.mode∧((moveN s dx dy).2.broken=false→within36 (moveN s dx dy).1.x (moveN s dx dy).1.y=true):=by
 unfold moveN
 dsimp only
 split
 ·exact⟨rfl,rfl,rfl,fun e=>absurd e (by show ¬(true=false);decide)⟩
 ·rename_i h
  rw[Bool.or_eq_true,not_or]at h
  have hw:within36 (addN s.x dx) (addN s.y dy)=true:=by
   have:=h.2
   simpa using this
  repeat' split
  all_goals exact⟨rfl,rfl,rfl,fun _=>hw⟩
theorem takeN_step(s:NavS)(x:Frm):StepR s (takeN W H f s x).1∧ToldR (takeN W H f s x).1 (takeN W H f s x).2:=by
 unfold takeN
 split
 ·exact⟨.inl ⟨rfl,rfl,rfl⟩,tellN_told s⟩
 ·dsimp only
  generalize s.ln.take x.kind x.seq x.time x.a=t
  have key:∀(o:NavS) (i:Inp) (say:Bool),o.ins=s.ins→o.modes=s.modes→o.mode=s.mode→StepR s (settleN { o with time:=x.time } i say).1∧ToldR (settleN { o with time:=x.time } i say).1 (settleN { o with time:=x.time } i say).2:=by
   intro o i say e1 e2 e3
   obtain⟨⟨q1,q2,q3,-,-⟩,q4⟩:=settleN_step { o with time:=x.time } i say
   refine⟨.inr ⟨i,?_,?_,?_⟩,q4⟩
   ·rw[q1];show o.ins++[i]=_;rw[e1]
   ·rw[q2];show o.modes++[(nextN o.mode i).1]=_;rw[e2,e3]
   ·rw[q3];show (nextN o.mode i).1=_;rw[e3]
  split
  ·obtain⟨g1,g2,g3,-,-⟩:=groundN_same (W:=W) (H:=H) (f:=f) { s with ln:=t.1 } t.2.2.1
   exact key _ _ _ g1 g2 g3
  split
  ·exact⟨.inl ⟨rfl,rfl,rfl⟩,.inl rfl⟩
  ·split
   ·obtain⟨g1,g2,g3,-⟩:=moveN_same { s with ln:=t.1 } x.a x.b
    exact key _ _ _ g1 g2 g3
   ·split
    ·exact key _ _ _ rfl rfl rfl
    ·exact key _ _ _ rfl rfl rfl
theorem takeN_near{s:NavS}(hw:s.mode≠4→within36 s.x s.y=true)(hm:0≤s.mode∧s.mode≤4)(x:Frm):(takeN W H f s x).1.mode≠4→within36 (takeN W H f s x).1.x (takeN W H f s x).1.y=true:=by
 unfold takeN
 split
 ·rename_i h
  exact fun e=>absurd h e
 ·rename_i h
  dsimp only
  generalize s.ln.take x.kind x.seq x.time x.a=t
  have hw1:=hw h
  have key:∀(o:NavS) (i:Inp) (say:Bool),o.mode=s.mode→(i.broken=false→within36 o.x o.y=true)→((settleN { o with time:=x.time } i say).1.mode≠4→within36 (settleN { o with time:=x.time } i say).1.x (settleN { o with time:=x.time } i say).1.y=true):=by
   intro o i say e1 e2 e3
   obtain⟨⟨-,-,q3,q4,q5⟩,-⟩:=settleN_step { o with time:=x.time } i say
   rw[q4,q5]
   refine e2 ?_
   cases hb:i.broken with
   | false=>rfl
   | true =>
    exfalso
    refine e3 ?_
    rw[q3]
    show (nextN o.mode i).1=4
    unfold nextN
    rw[if_pos (.inr (.inr (.inl hb)))]
  split
  ·obtain⟨-,-,g3,g4,g5⟩:=groundN_same (W:=W) (H:=H) (f:=f) { s with ln:=t.1 } t.2.2.1
   exact key _ _ _ g3 (fun _=>by rw[g4,g5];exact hw1)
  split
  ·exact fun _=>hw1
  ·split
   ·obtain⟨-,-,g3,g4⟩:=moveN_same { s with ln:=t.1 } x.a x.b
    exact key _ _ _ g3 g4
   ·split
    ·exact key _ _ _ rfl (fun _=>hw1)
    ·exact key _ _ _ rfl (fun _=>hw1)
end
theorem sumG_in{p:List Int}{f:Nat→Int}{F:Int}(hp:Pos30 p)(hf:∀i,i<p.length→0≤f i∧f i≤F):∀n,n≤p.length→0≤sumG p f n∧sumG p f n≤F*sumL p n
 | 0,_=>by simp[sumG,sumL]
 | n+1,hn=>by
  have ih:=sumG_in hp hf n (by omega)
  have h1:=hp n (by omega)
  have h2:=hf n (by omega)
  have h3:=Int.mul_nonneg h1.1 h2.1
  have h4:=Int.mul_le_mul_of_nonneg_left h2.2 h1.1
  rw[sumG,sumL,Int.mul_add,Int.mul_comm F (p.getD n 0)]
  omega
theorem near_in{S s st M:Int}(hs:0<s)(hS:0≤S)(hM:S*st≤M*s)(hst:0≤st):0≤divV (S*st) s 2∧divV (S*st) s 2≤M:=by
 rw[divV_near hs]
 have h0:=Int.mul_nonneg hS hst
 refine⟨Int.ediv_nonneg (by omega) (by omega),Int.le_of_lt_add_one (Int.ediv_lt_of_lt_mul (by omega) ?_)⟩
 have e:(M+1)*(2*s)=2*(M*s)+2*s:=by rw[Int.add_mul,Int.one_mul,Int.mul_left_comm]
 rw[e]
 omega
theorem mean_in{g:Grd}(hg:GrdOk g):(g.x≤(meanN g).1∧(meanN g).1≤g.x+(g.w-1)*g.st)∧(g.y≤(meanN g).2∧(meanN g).2≤g.y+(g.h-1)*g.st):=by
 obtain⟨W,H,hW,hH,hW1,hH1,hn⟩:=nat_sides hg
 have hln:=hg.len
 obtain⟨⟨-,-,s1,-⟩,-,hp,hs,-⟩:=hg
 have hs0:0<sumL g.p g.p.length:=by omega
 have hc:∀i,i<g.p.length→0≤colI g.w i∧colI g.w i≤g.w-1:=fun i hi=>by
  obtain⟨c1,-,-,c4⟩:=col_at (W:=W) (by omega) i
  rw[hW,c1]
  have:=Int.natCast_nonneg (i%W)
  omega
 have hr:∀i,i<g.p.length→0≤rowI g.w i∧rowI g.w i≤g.h-1:=fun i hi=>by
  obtain⟨-,c2,-,-⟩:=col_at (W:=W) (by omega) i
  have c5:i/W<H:=row_lt (by omega)
  rw[hW,hH,c2]
  have:=Int.natCast_nonneg (i/W)
  omega
 have x1:=sumG_in hp hc g.p.length (Nat.le_refl _)
 have y1:=sumG_in hp hr g.p.length (Nat.le_refl _)
 have mx:sumG g.p (colI g.w) g.p.length*g.st≤(g.w-1)*g.st*sumL g.p g.p.length:=by
  rw[Int.mul_right_comm]
  exact Int.mul_le_mul_of_nonneg_right x1.2 (by omega)
 have my:sumG g.p (rowI g.w) g.p.length*g.st≤(g.h-1)*g.st*sumL g.p g.p.length:=by
  rw[Int.mul_right_comm]
  exact Int.mul_le_mul_of_nonneg_right y1.2 (by omega)
 have a1:=near_in hs0 x1.1 mx (by omega)
 have a2:=near_in hs0 y1.1 my (by omega)
 unfold meanN
 dsimp only
 omega
theorem sumG_q{p:List Int}(hp:Pos30 p)(f:Nat→Int)(c:Int):∀n,n≤p.length→0≤sumG p (fun i=>f i*f i) n-2*(sumG p f n*c)+sumL p n*(c*c)
 | 0,_=>by simp[sumG,sumL]
 | n+1,hn=>by
  have ih:=sumG_q hp f c n (by omega)
  have h1:=hp n (by omega)
  have hsq:0≤(f n-c)*(f n-c):=by
   rcases Int.le_total 0 (f n-c) with h|h
   ·exact Int.mul_nonneg h h
   ·exact Int.mul_nonneg_of_nonpos_of_nonpos h h
  have h2:=Int.mul_nonneg h1.1 hsq
  rw[sumG,sumG,sumL]
  have e:p.getD n 0*((f n-c)*(f n-c))=p.getD n 0*(f n*f n)-2*(p.getD n 0*f n*c)+p.getD n 0*(c*c):=by
   generalize p.getD n 0=P
   generalize f n=F
   have e1:(F-c)*(F-c)=F*F-2*(F*c)+c*c:=by
    rw[Int.sub_mul,Int.mul_sub,Int.mul_sub,Int.mul_comm c F]
    omega
   rw[e1,Int.mul_add,Int.mul_sub,Int.mul_left_comm P 2,← Int.mul_assoc P F c]
  rw[e]at h2
  rw[Int.add_mul,Int.add_mul]
  omega
theorem sumG_cs{p:List Int}(hp:Pos30 p)(f:Nat→Int):∀n,n≤p.length→0≤sumL p n*sumG p (fun i=>f i*f i) n-sumG p f n*sumG p f n
 | 0,_=>by simp[sumG,sumL]
 | n+1,hn=>by
  have ih:=sumG_cs hp f n (by omega)
  have h1:=hp n (by omega)
  have h2:=Int.mul_nonneg h1.1 (sumG_q hp f (f n) n (by omega))
  rw[sumG,sumG,sumL]
  generalize p.getD n 0=P at *
  generalize f n=F at *
  generalize sumL p n=S at *
  generalize sumG p (fun i=>f i*f i) n=B at *
  generalize sumG p f n=A at *
  have e:(S+P)*(B+P*(F*F))-(A+P*F)*(A+P*F)=(S*B-A*A)+P*(B-2*(A*F)+S*(F*F)):=by
   have a1:(S+P)*(B+P*(F*F))=S*B+S*(P*(F*F))+(P*B+P*(P*(F*F))):=by rw[Int.add_mul,Int.mul_add,Int.mul_add]
   have a2:(A+P*F)*(A+P*F)=A*A+A*(P*F)+(P*F*A+P*F*(P*F)):=by rw[Int.add_mul,Int.mul_add,Int.mul_add]
   have a3:P*(B-2*(A*F)+S*(F*F))=P*B-2*(P*(A*F))+P*(S*(F*F)):=by rw[Int.mul_add,Int.mul_sub,Int.mul_left_comm P 2]
   have b1:P*(S*(F*F))=S*(P*(F*F)):=Int.mul_left_comm ..
   have b2:A*(P*F)=P*(A*F):=Int.mul_left_comm ..
   have b3:P*F*A=P*(A*F):=by rw[Int.mul_assoc,Int.mul_comm F A]
   have b4:P*F*(P*F)=P*(P*(F*F)):=by rw[Int.mul_assoc,Int.mul_left_comm F P F]
   rw[a1,a2,a3,b1,b2,b3,b4]
   omega
  rw[e]
  omega
theorem cross_in{g:Grd}(hg:GrdOk g){f:Nat→Int}(hf:∀i,i<g.p.length→0≤f i∧f i≤63):
  (0≤sumG g.p f g.p.length∧sumG g.p f g.p.length≤67645734912)∧(0≤sumG g.p (fun i=>f i*f i) g.p.length∧sumG g.p (fun i=>f i*f i) g.p.length≤4261681299456) ∧
  (0≤crossN (sumL g.p g.p.length) (sumG g.p (fun i=>f i*f i) g.p.length) (sumG g.p f g.p.length) (sumG g.p f g.p.length)∧crossN (sumL g.p g.p.length) (sumG g.p (fun i=>f i*f i) g.p.length) (sumG g.p f g.p.length) (sumG g.p f g.p.length)≤260112384):=by
 have hln:=hg.len
 obtain⟨-,-,hp,hs,hs1⟩:=hg
 have h1:=sumG_in hp hf g.p.length (Nat.le_refl _)
 have h2:=sumG_in (f:=fun i=>f i*f i) (F:=3969) hp (fun i hi=>mul_in (hf i hi) (hf i hi)) g.p.length (Nat.le_refl _)
 have h3:=sumG_cs hp f g.p.length (Nat.le_refl _)
 refine⟨by omega,by omega,?_⟩
 unfold crossN
 generalize sumG g.p (fun i=>f i*f i) g.p.length=B at *
 generalize sumG g.p f g.p.length=A at *
 generalize sumL g.p g.p.length=S at *
 have hS:0<S:=by omega
 have hAA:0≤A*A:=Int.mul_nonneg h1.1 h1.1
 have hSB:S*B≤S*(3969*S):=Int.mul_le_mul_of_nonneg_left h2.2 (by omega)
 generalize hX:S*B-A*A=X at *
 have hX1:X≤3969*S*S:=by rw[Int.mul_comm (3969*S) S];omega
 have d1:0≤X*65536/S:=Int.ediv_nonneg (by omega) (by omega)
 have d2:X*65536/S≤260112384*S:=Int.ediv_le_of_le_mul hS (by
  have e:260112384*S*S=65536*(3969*S*S):=by rw[show (260112384:Int)=65536*3969 by decide,Int.mul_assoc (65536*3969) S S,Int.mul_assoc 65536 3969,Int.mul_assoc 3969 S S]
  rw[e]
  omega)
 exact⟨Int.ediv_nonneg d1 (by omega),Int.ediv_le_of_le_mul hS d2⟩
theorem vary_in{g:Grd}(hg:GrdOk g):(0≤varX g∧varX g≤260112384)∧(0≤varY g∧varY g≤260112384):=by
 obtain⟨W,H,hW,hH,hW1,hH1,hn⟩:=nat_sides hg
 have hc:∀i,i<g.p.length→0≤colI g.w i∧colI g.w i≤63:=fun i hi=>by
  obtain⟨c1,-,-,c4⟩:=col_at (W:=W) (by omega) i
  rw[hW,c1]
  have:=Int.natCast_nonneg (i%W)
  omega
 have hr:∀i,i<g.p.length→0≤rowI g.w i∧rowI g.w i≤63:=fun i hi=>by
  obtain⟨-,c2,-,-⟩:=col_at (W:=W) (by omega) i
  have c5:i/W<H:=row_lt (by omega)
  rw[hW,c2]
  have:=Int.natCast_nonneg (i/W)
  omega
 exact⟨(cross_in hg hc).2.2,(cross_in hg hr).2.2⟩
theorem sure_in{g:Grd}(hg:GrdOk g):(0≤(varX g+varY g)*(g.st*g.st)∧(varX g+varY g)*(g.st*g.st)≤8727923301285888)∧(0≤divV ((varX g+varY g)*(g.st*g.st)) 65536 1∧divV ((varX g+varY g)*(g.st*g.st)) 65536 1≤133177540608)∧sqB (divV ((varX g+varY g)*(g.st*g.st)) 65536 1).toNat 32=isq (divV ((varX g+varY g)*(g.st*g.st)) 65536 1).toNat:=by
 obtain⟨x,y⟩:=vary_in hg
 obtain⟨⟨-,-,s1,s2⟩,-⟩:=hg
 have h1:=mul_in (show 0≤g.st∧g.st≤4096 by omega) (show 0≤g.st∧g.st≤4096 by omega)
 have h2:=mul_in (show 0≤varX g+varY g∧varX g+varY g≤520224768 by omega) h1
 generalize (varX g+varY g)*(g.st*g.st)=m at *
 have e:divV m 65536 1=(m+65536-1)/65536:=divV_up h2.1 (by decide)
 refine⟨by omega,by rw[e];omega,sqB_isq ?_⟩
 rw[e]
 omega
end Go.Proofs.YthajpemlpmlefaaGreat
