import Derived.Test.YtbhchphfmhmabaaGreatP47
set_option maxHeartbeats 512000000
set_option maxRecDepth 4000
set_option linter.unusedVariables false
set_option linter.unusedSimpArgs false
namespace Go.Proofs.YtbhchphfmhmabaaGreat
open Go.RowKit _root_.Go.Proofs.Tryz
theorem bA8(L:List Int):zP L=(sV L).1:=by
 unfold zP sV;split
 ·rfl
 ·rw[aNv (aH3 L).2]
theorem bA9(L:List Int):0≤(sV L).1∧(sV L).1≤4294967296:=by
 unfold sV;split
 ·decide
 ·have:=aCo (aH3 L).2;dsimp only;omega
def WgR(o:Option (List Int))(v:Value)(S:List HE)(T:List HE):Prop:=(o=none∧v=.tuple #[.slice none 0 0,.bool false]∧S=T)∨∃l A c,o=some l∧v=.tuple #[.slice A l.length c,.bool true]∧S=.row (.slice A l.length c) 2 1 l.length (aD .i64 l)::T
attribute [local irreducible] OJ J bM Code.wpIn wpListIn Oper.wpIn bodyPost CallsIn aF
theorem aOj(K:eH)(s0:dK)(f:List Int)(g:bE)(A:Option Addr)(c:Nat)(n:lN)(z b:Int)(w:World)(hown:aZ (K.H s0) w)(hF:jS K.ys f K.room)(hk0:cO K.ys f K.room s0 b)(hb:b≤800000000000000000)
  (hr:bP w (bB (K.H s0)) A g.p.length c 1 (aD .i64 g.p)) (hg:cH g) (hx : -4611686018427387904≤g.x∧g.x≤4611686018427387904) (hy : -4611686018427387904≤g.y∧g.y≤4611686018427387904) (hn:jV n) (hz : -4398046511104≤z∧z≤4398046511104) :
  aF prog 154 [.pointer (some ⟨K.g,0,none⟩),.agg (aQ g A c).toArray,.agg (qZ n).toArray,.int .i64 z] (K.H s0) w
   (fun v S'=>∃s',cO K.ys f K.room s' (b+20000)∧WgR (rH (wY K.ys) (hY K.ys) f g n z) v S' (K.H s')):=by
 have hm4:=hg.len;have hMe:=fun w hw=>aLj g A c w hw hg hx hy;have hsd:=hg.1;unfold kC at hsd;have pR:=fun i w (hi:i<g.p.length)=>aTr g A c i w hi oo hm4.2 oo hx hy;have hW:rH (wY K.ys) (hY K.ys) f g n z=if jK (wY K.ys) (hY K.ys) f (fP g).1 (fP g).2≠0 then none else some (dO (fun i=>if jK (wY K.ys) (hY K.ys) f (g.x+aY g.w i*g.st) (g.y+aV g.w i*g.st)=0 then sX (wZ n (zP (tU (wY K.ys) (hY K.ys) f ((fP g).1/256) ((fP g).2/256) 1)/4)) (oV (wY K.ys) (hY K.ys) f (g.x+aY g.w i*g.st) (g.y+aV g.w i*g.st)-z)else (wZ n (zP (tU (wY K.ys) (hY K.ys) f ((fP g).1/256) ((fP g).2/256) 1)/4)).flo) g.p.length):=rfl;rw[hW,bA8];clear hW;have hri:=bA9 (tU (wY K.ys) (hY K.ys) f ((fP g).1/256) ((fP g).2/256) 1);have hRo:=fun s1 b1 w ho hk hb=>bAb K s1 f ((fP g).1/256) ((fP g).2/256) 1 b1 w ho hF hk hb;generalize (sV (tU (wY K.ys) (hY K.ys) f ((fP g).1/256) ((fP g).2/256) 1)).1=ro at *;generalize (sV (tU (wY K.ys) (hY K.ys) f ((fP g).1/256) ((fP g).2/256) 1)).2=ro2 at *;generalize fP g=m at *;obtain⟨m1,m2⟩:=m;dsimp only at hMe hRo ⊢;have hwn:=aOq hn (ro/4);obtain⟨N,hN⟩:∃N:Nat,g.p.length=N:=⟨_,rfl⟩;have iW:=widen_cv n (ro/4);generalize hv:wZ n (ro/4)=v at *;obtain⟨F,hFF⟩:∃F:Nat→Int,(fun i:Nat=>if jK (wY K.ys) (hY K.ys) f (g.x+aY g.w i*g.st) (g.y+aV g.w i*g.st)=0 then sX v (oV (wY K.ys) (hY K.ys) f (g.x+aY g.w i*g.st) (g.y+aV g.w i*g.st)-z)else v.flo)=F:=⟨_,rfl⟩;rw[hFF];have hlen:=fun i (hi:i≤N)=>aB2 F hi;have hset:=fun i (hi:i<N)=>aB3 F hi;obtain⟨ns,nf,ng⟩:=n;obtain⟨vs,vf,vg⟩:=v;have hn2:=hn;obtain⟨⟨n1,n2⟩,-⟩:=hn2;have hwn2:=hwn;obtain⟨-,⟨w1,w2⟩,-⟩:=hwn2;obtain⟨gw,gh,gx,gy,gs,p⟩:=g;dsimp only at hr hm4 hMe pR hN hx hy hsd hFF n1 n2 w1 w2 ⊢;dsimp only[aQ,qZ]at *;clear hg;refine aJ func154 rfl ntmps154 rfl hown (fun _=>?_);simp only[aG];refine aB;rename_i b5 b6;refine bU rfl rfl rfl (fun w hw=>hMe w ⟨hr.h.go hw (aC.nil _)⟩) ?_;refine aB;refine lf rfl rfl rfl (S:=K.H s0) (fun w hw ho=>aFl K s0 f m1 m2 b w ho hF hk0 oo) ?_;rintro v S' ⟨s1,rfl,hk1,rfl⟩;by_cases hc:jK (wY K.ys) (hY K.ys) f m1 m2=0;case neg =>
  rw[if_pos hc];refine aB;exact cY rfl rfl rfl aA.au ⟨s1,hk1.mono oo,.inl ⟨rfl,rfl,rfl⟩⟩
 rw[if_neg (by rw[hc];decide),hc];refine aB;refine lf rfl rfl rfl (S:=K.H s1) (fun w hw ho=>hRo s1 (b+4) w ho hk1 oo) ?_;rintro v S' ⟨s2,rfl,hk2,rfl⟩;refine aB;rename_i bo;subst hN;refine cG (X:=Nat×dK) (fun q=>q.1≤p.length∧cO K.ys f K.room q.2 (b+404+4*(q.1:Int)))
  (fun q=>[(0,.pointer (some ⟨K.g,0,none⟩)),(3,.int .i64 z),(5,.pointer (some ⟨b5,0,none⟩)),(6,.pointer (some ⟨b6,0,none⟩)),(16,.slice (some ⟨bo,0,none⟩) p.length p.length),(55,.int .i64 p.length),(56,.int .i64 q.1)])
  (fun q=>.row (.slice (some ⟨bo,0,none⟩) p.length p.length) 2 1 p.length (aD .i64 (kQ F p.length q.1))::K.HC q.2 [.blk b6 29 [.int .i64 vs,.int .i64 vf,.int .i64 vg],.blk b5 126 [.int .i64 gw,.int .i64 gh,.int .i64 gx,.int .i64 gy,.int .i64 gs,.slice A p.length c]]) (fun q=>p.length-q.1) (0,s2) ⟨Nat.zero_le _,hk2.mono (by dsimp only;omega)⟩ ⟨rfl,rfl,rfl,rfl,rfl,rfl,rfl,trivial⟩ (by dsimp only;rw[aGm];exact aA.au) ?_
 rintro⟨i,s3⟩ ⟨hi,hk3⟩;dsimp only at hi hk3 ⊢;rcases Nat.lt_or_ge i p.length with h|h
 ·have hs:=hset i h;have hle:=hlen i hi;have hFi:F i=if jK (wY K.ys) (hY K.ys) f (gx+aY gw i*gs) (gy+aV gw i*gs)=0 then sX ⟨vs,vf,vg⟩ (oV (wY K.ys) (hY K.ys) f (gx+aY gw i*gs) (gy+aV gw i*gs)-z)else vf:=by rw[← hFF]
  have hA2:=fun w=>pR i w h;have hH:=aKk hF.good.1 (W:=wY K.ys) (H:=hY K.ys) (gx+aY gw i*gs) (gy+aV gw i*gs);have hHt:=fun w ho=>aFl K s3 f (gx+aY gw i*gs) (gy+aV gw i*gs) (b+404+4*(i:Int)) w ho hF hk3 oo;clear hset hlen hFF pR;generalize gx+aY gw i*gs=px at *;generalize gy+aV gw i*gs=py at *;generalize oV (wY K.ys) (hY K.ys) f px py=hh at *;generalize jK (wY K.ys) (hY K.ys) f px py=cd at *;have iN:CV prog 201 [.agg (qZ ⟨vs,vf,vg⟩).toArray,.int .i64 (hh-z)] (.int .i64 (sX ⟨vs,vf,vg⟩ (hh-z))) True:=⟨fun _ w=>(weightN_cv ⟨vs,vf,vg⟩ (hh-z)).h ⟨hwn,by show (-9223372036854775808:Int)≤_∧_≤(9223372036854775807:Int);omega⟩ w⟩;generalize sX ⟨vs,vf,vg⟩ (hh-z)=wv at *;dsimp only[qZ]at iN;generalize hpr:kQ F p.length i=R at *;refine aB;refine bU rfl rfl rfl (fun w hw=>hA2 w) ?_;refine aB;refine lf rfl rfl rfl (S:=K.H s3) (fun w hw ho=>hHt w ho) ?_;rintro v S' ⟨s4,rfl,hk4,rfl⟩;by_cases hc0:cd=0
  ·rw[if_pos hc0]at hFi;rw[hFi]at hs;subst hc0;have hl2:(R.set i vf).length=p.length:=by rw[List.length_set];exact hle
   refine aB;refine aR (i+1,s4) ⟨h,hk4.mono (by dsimp only;omega)⟩ (by show p.length-(i+1)<p.length-i;omega) ⟨rfl,rfl,rfl,rfl,rfl,rfl,by simp[aI],trivial⟩ ?_;dsimp only;rw[← hs];try rw[List.set_set]
   exact aA.au
  ·rw[if_neg hc0]at hFi;rw[hFi]at hs;refine aB;all_goals first
    | (exfalso;contradiction)
    | (refine aR (i + 1, s4) ⟨h, hk4.mono (by dsimp only; omega)⟩ (by show p.length - (i + 1) < p.length - i; omega) ⟨rfl, rfl, rfl, rfl, rfl, rfl, by simp [aI], trivial⟩ ?_
       dsimp only;rw [← hs];exact aA.au)
 ·obtain rfl:i=p.length:=oo;rw[aB1];refine aB;refine cY rfl rfl (S':=.row (.slice (some ⟨bo,0,none⟩) p.length p.length) 2 1 p.length (aD .i64 (dO F p.length))::K.H s3) rfl aA.au ⟨s3,hk3.mono oo,.inr ⟨_,some ⟨bo,0,none⟩,p.length,rfl,?_,?_⟩⟩
  ·rw[fQ]
  ·rw[fQ]
def xW(s:aK):aK :=
 let c:=aW s.g;let raw:=bN s.g c;let g':=bX raw;let n:Int:=g'.w*g'.h
 { s with g:=g',bk:=if c.kind=1 then dC s.bk s.bk.b (2*cM n)else if c.kind=2 then dC s.bk s.bk.b (cM n)else dC s.bk (gL s.bk.b 1 (aL s.g.p s.g.p.length) (aL raw.p raw.p.length)) (cM n),deeds:=s.deeds++[⟨4,bW,0,0,0,[],c⟩] }
theorem aVc(k:Nat)(s:aK)(h:(aW s.g).kind≠0):dR (k+1) s=dR k (xW s):=by rw[dR];dsimp only;rw[if_neg h];rfl
theorem aVd(k:Nat)(s:aK)(h:(aW s.g).kind=0):dR k s=s:=by
 cases k with
 | zero=>rfl
 | succ k=>rw[dR];dsimp only;rw[if_pos h]
structure xF(k i:Nat)(s1 s':aK):Prop where
 g:s'.g=cV s1.g i
 lay:dR (4-i) s'=dR 4 s1
 ok:cH s'.g
 b:0≤s'.bk.b∧s'.bk.b≤1099511627776
 bn:0≤s'.bk.n∧s'.bk.n≤6*(k:Int)+1+i
 dl:s'.deeds.length≤6*k+1+i
 rest:kD s'
theorem xF.zero{k:Nat}{s1:aK}(hg:cH s1.g)(hb:0≤s1.bk.b∧s1.bk.b≤1099511627776)(hn:0≤s1.bk.n∧s1.bk.n≤6*(k:Int)+1)(hd:s1.deeds.length≤6*k+1)(hL:kD s1):xF k 0 s1 s1:=⟨rfl,rfl,hg,hb,oo,oo,hL⟩
theorem xF.next{k i:Nat}{s1 s':aK}(h:xF k i s1 s')(hi:i<4)(hc:(aW s'.g).kind≠0):xF k (i+1) s1 (xW s'):=by
 obtain⟨hch,hp,hz,ho⟩:=aDd h.ok hc;have hcost:0≤cM ((bX (bN s'.g (aW s'.g))).w*(bX (bN s'.g (aW s'.g))).h)∧cM ((bX (bN s'.g (aW s'.g))).w*(bX (bN s'.g (aW s'.g))).h)≤4194400:=qR (by have:=ho.len;rw[← ho.2.1];omega);have hs0:0≤aL s'.g.p s'.g.p.length:=by have:=h.ok.2.2.2.1;have:=h.ok.len;omega
 have hb0:=h.b;have hsc:=yE (b:=s'.bk.b) (most:=1) (s:=aL s'.g.p s'.g.p.length) (z:=aL (bN s'.g (aW s'.g)).p (bN s'.g (aW s'.g)).p.length) hb0 od hs0;have hbn:=h.bn;have hdl:=h.dl;refine⟨?_,?_,ho,?_,?_,?_,⟨h.rest.pl,h.rest.wl⟩⟩
 ·show bX (bN s'.g (aW s'.g))=bX (bN (cV s1.g i) (aW (cV s1.g i)));rw[h.g]
 ·rw[← h.lay,show 4-i=(4-(i+1))+1 by omega,aVc _ _ hc]
 ·show 0≤(if (aW s'.g).kind=1 then _ else if (aW s'.g).kind=2 then _ else _:Bk).b∧(if (aW s'.g).kind=1 then _ else if (aW s'.g).kind=2 then _ else _:Bk).b≤_;generalize cM ((bX (bN s'.g (aW s'.g))).w*(bX (bN s'.g (aW s'.g))).h)=co at *;split
  ·exact rD ⟨hb0,oo⟩
  ·split
   ·exact rD ⟨hb0,oo⟩
   ·exact rD ⟨hsc,oo⟩
 ·have e:(xW s').bk.n=s'.bk.n+1:=by
   show (if (aW s'.g).kind=1 then _ else if (aW s'.g).kind=2 then _ else _:Bk).n=_;split
   ·rfl
   ·split<;>rfl
  rw[e];push_cast;omega
 ·show (s'.deeds++[_]).length≤_;rw[List.length_append,List.length_singleton];omega
def WyI(g b2 k:Nat)(s1:aK)(a1:bQ)(i:Nat)(S:List HE):Prop:=∃(s':aK) (a':bQ) (ds:List jT) (Ax:Option Addr) (cx:Nat) (xs:List Int),
 xF k i s1 s'∧(a'.ptr=a1.ptr∧a'.An=a1.An∧a'.cn=a1.cn∧a'.Ai=a1.Ai∧a'.ci=a1.ci∧a'.Am=a1.Am∧a'.cm=a1.cm)∧ds.length=s'.deeds.length ∧
 (i=0∧a'.Ag=a1.Ag∧a'.cg=a1.cg∨a'.Ag=Ax∧a'.cg=cx∧s'.g.p=xs) ∧
 S=[.row (.slice Ax xs.length cx) 2 1 xs.length (aD .i64 xs),.blk b2 62 [.pointer (some ⟨g,0,none⟩)],.blk g 133 (aH s' a'),bH a'.Ad a'.cd ds]
theorem aJu{α:Type}[Inhabited α]{e:α→List Value}{s:Nat}[hE:oN e s](l:List α)(i k q:Nat)(v:Value)(x':α)(hq:q=i*s+k)(hk:k<s)(hx:e x'=(e (l.getD i default)).set k v):zY (aO e l) q v (aO e (l.set i x')) (i<l.length):=⟨fun h=>by
 subst hq;have e1:=congrArg (aO e) (aEg l i h);rw[show l.take i++(l.getD i default::l.drop (i+1))=l.take i++([l.getD i default]++l.drop (i+1))from rfl,rV,rV,tK]at e1;have e2:=congrArg (aO e) (aNg l i h x');rw[show l.take i++(x'::l.drop (i+1))=l.take i++([x']++l.drop (i+1))from rfl,rV,rV,tK]at e2;have hl:(aO e (l.take i)).length=i*s:=by rw[kJ,List.length_take,Nat.min_eq_left oo]
 have hv:(e (l.getD i default)).length=s:=by have:=kJ (e:=e) [l.getD i default];rw[tK]at this;simpa using this
 rw[e1,e2,hx];refine⟨?_,by simp only[List.length_append];omega⟩;rw[← hl,List.set_append_right _ _ oo,Nat.add_sub_cancel_left,List.set_append_left _ _ oo]⟩
def qN(L:List cK)(x y:Int)(i:Nat):List cK:=(L.take i).map (fun s=>⟨s.dx-x,s.dy-y,s.z⟩)++L.drop i
theorem aQb(L:List cK)(x y:Int)(i:Nat):(qN L x y i).length=L.length:=by unfold qN;rw[List.length_append,List.length_map,← List.length_append,List.take_append_drop]
theorem aQa(L:List cK)(x y:Int)(i:Nat)(h:i<L.length):(qN L x y i).getD i default=L.getD i default:=by unfold qN;rw[List.getD_eq_getElem?_getD,List.getElem?_append_right (by rw[List.length_map,List.length_take];omega),List.length_map,List.length_take,Nat.min_eq_left oo,Nat.sub_self,List.getElem?_drop,Nat.add_zero,← List.getD_eq_getElem?_getD]
theorem aQc(L:List cK)(x y:Int)(i:Nat)(h:i<L.length):(qN L x y i).set i ⟨(L.getD i default).dx-x,(L.getD i default).dy-y,(L.getD i default).z⟩=qN L x y (i+1):=by
 unfold qN;have hl:((L.take i).map (fun s:cK=>(⟨s.dx-x,s.dy-y,s.z⟩:cK))).length=i:=by rw[List.length_map,List.length_take];omega
 rw[List.set_append_right _ _ oo,hl,Nat.sub_self,List.drop_eq_getElem_cons h,List.set_cons_zero,List.take_succ_eq_append_getElem h,List.map_append,List.append_assoc];rw[List.getD_eq_getElem?_getD,List.getElem?_eq_getElem h];rfl
theorem aQ9(P:kE):qN (kZ P P.n) P.x P.y P.n=fI P:=by unfold qN fI;have:=zI P P.n;rw[List.take_of_length_le oo,List.drop_eq_nil_of_le oo,List.append_nil]
theorem aXq(P:kE):(fI P).length=P.n:=by unfold fI;rw[List.length_map,zI]
section
variable (g:Nat) (T:TypeId) (p r:List Value) (P:kE)
theorem aY6(w:World)(hown:aZ [.blk g T (p++eE P r)] w)(hok:kU P):
  aF prog 150 [.pointer (some ⟨g,p.length,none⟩)] [.blk g T (p++eE P r)] w
   (fun v S'=>∃A c,v=.slice A P.n c∧S'=[.row (.slice A P.n c) 110 3 P.n (aO bV (fI P)),.blk g T (p++eE P r)]):=by
 have hall:=fun w ho=>aY2 g T p r P w ho hok;have hlen:=zI P P.n;have hb0:qN (kZ P P.n) P.x P.y 0=kZ P P.n:=rfl;have hbl:=fun i=>aQb (kZ P P.n) P.x P.y i;have hbg:=fun i h=>aQa (kZ P P.n) P.x P.y i h;have hbs:=fun i h=>aQc (kZ P P.n) P.x P.y i h;have hin:∀i,i<P.n→(-2147483648≤((kZ P P.n).getD i default).dx∧((kZ P P.n).getD i default).dx≤2147483648)∧(-2147483648≤((kZ P P.n).getD i default).dy∧((kZ P P.n).getD i default).dy≤2147483648):=fun i hi=>by rw[aMe P P.n i hi];have:=hok.all ((P.first+i)%64) oo;omega
 rw[← aQ9 P];obtain⟨l,first,m,x,y,gap⟩:=P;obtain⟨h1,h2,h3,h4,h5,h6⟩:=hok;dsimp only at h1 h2 h3 h4 h5 h6 hall hlen hb0 hbl hbg hbs hin ⊢;dsimp only[eE]at *;have iL:fF (aO bV l) 192:=⟨by rw[kJ,h1]⟩;generalize kZ ⟨l,first,m,x,y,gap⟩ m=L at *;refine aJ func150 rfl ntmps150 rfl hown (fun _=>?_);simp only[aG];refine aB;refine lf rfl rfl rfl (S:=[.blk g T (p++(aO bV l++(.int .i64 first::.int .i64 m::.int .i64 x::.int .i64 y::.int .i64 gap::r)))]) (fun w hw ho=>hall w ho) ?_;rintro v S' ⟨A,c,rfl,rfl⟩;refine aB;refine cG (X:=Nat) (fun q=>q≤m) (fun q=>[(0,.pointer (some ⟨g,p.length,none⟩)),(3,.slice A m c),(8,.int .i64 m),(9,.int .i64 q)])
  (fun q=>[.row (.slice A m c) 110 3 m (aO bV (qN L x y q)),.blk g T (p++(aO bV l++(.int .i64 first::.int .i64 m::.int .i64 x::.int .i64 y::.int .i64 gap::r)))]) (fun q=>m-q) 0 (Nat.zero_le _) ⟨rfl,rfl,rfl,rfl,trivial⟩ (by rw[hb0];exact aA.au) ?_
 intro i hi;rcases Nat.lt_or_ge i m with h|h
 ·refine zB (A:=A) (m:=m) (cc:=c) oo (fun ga hga=>?_);subst hga;have e1:=hbl i;have e2:=hbg i oo;have e3:=hbs i oo;have e4:=hin i h;clear hbl hbg hbs hin hall;generalize hB:qN L x y i=B at *;generalize L.getD i default=s at *;obtain⟨sx,sy,sz⟩:=s;dsimp only at e3 e4;have hBi:i<B.length:=oo;have eB:B.getD i default=⟨sx,sy,sz⟩:=e2;have g0:dG (bV (B.getD i default)) 0 (.int .i64 sx):=⟨by rw[eB];rfl⟩;have iS1:∀v:Int,zY (aO bV B) (i*3) (.int .i64 v) (aO bV (B.set i ⟨v,sy,sz⟩)) (i<B.length):=fun v=>aJu (e:=bV) B i 0 _ _ ⟨v,sy,sz⟩ oo od (by rw[eB];rfl);have hB2:∀v:Int,(B.set i ⟨v,sy,sz⟩).getD i default=⟨v,sy,sz⟩:=fun v=>by rw[List.getD_eq_getElem?_getD,List.getElem?_set_self hBi];rfl
  have g1:∀v:Int,dG (bV ((B.set i ⟨v,sy,sz⟩).getD i default)) 1 (.int .i64 sy):=fun v=>⟨by rw[hB2];rfl⟩;have hlB:∀v:Int,i<(B.set i ⟨v,sy,sz⟩).length:=fun v=>by rw[List.length_set];exact hBi
  have iS2:∀u v:Int,zY (aO bV (B.set i ⟨u,sy,sz⟩)) (i*3+1) (.int .i64 v) (aO bV (B.set i ⟨u,v,sz⟩)) (i<(B.set i ⟨u,sy,sz⟩).length):=fun u v=>by have:=aJu (e:=bV) (B.set i ⟨u,sy,sz⟩) i 1 (i*3+1) (.int .i64 v) ⟨u,v,sz⟩ rfl od (by rw[hB2];rfl);rw[List.set_set]at this;exact this
  have hlB1:=hlB (sx-x);refine aB;exact aR (i+1) h (by show m-(i+1)<m-i;omega) ⟨rfl,rfl,rfl,by simp[aI],trivial⟩ (by rw[← e3];exact aA.au)
 ·obtain rfl:i=m:=oo;refine aB;exact aM rfl rfl aA.au ⟨A,c,rfl,rfl⟩
end
theorem aWg(g:Nat)(s:aK)(a:bQ)(w:World)(hown:aZ [.blk g 133 (aH s a)] w)(hok:kU s.p):
  aF prog 150 [.pointer (some ⟨g,44,none⟩)] [.blk g 133 (aH s a)] w
   (fun v S'=>∃A c,v=.slice A s.p.n c∧S'=[.row (.slice A s.p.n c) 110 3 s.p.n (aO bV (fI s.p)),.blk g 133 (aH s a)]):=by
 have h:=aY6 g 133 _ _ s.p w (by rw[← pY s a];exact hown) hok;rw[aAw,← pY s a]at h;exact h
instance navcheck_cv(c:dF):CV prog 11 [.agg (aAe c).toArray] (.int .i64 (oR c)) True:=⟨fun _ w=>by
 have hC:oR c=if ¬mP c then 2 else if ¬lZ c then 2 else if ¬jV c.noi then 2 else if c.far<1∨15<c.far∨c.step<64∨2048<c.step∨c.gap<0∨65536<c.gap∨c.need<2∨64<c.need then 2 else if c.meas<0∨3<c.meas∨c.away<0∨30<c.away∨c.num<1∨1048576<c.num∨c.den<1∨1048576<c.den then 1 else if c.times<1∨65536<c.times∨c.spread<0∨85<c.spread then 1 else 0:=rfl;have i1:=rcheck_cv c;have i2:=wcheck_cv c;have i3:CV prog 48 [.agg (qZ c.noi).toArray] (.int .i64 (if jV c.noi then 0 else 2)) True:=⟨fun _ w=>by
  by_cases h:jV c.noi
  ·rw[if_pos h];exact(ncheck_cv c.noi).h h w
  ·rw[if_neg h];exact aWo c.noi h w⟩
 generalize oR c=r at *;have hx1:(if mP c then (0:Int)else 2)=0∧mP c∨(if mP c then (0:Int)else 2)=2∧¬mP c:=by split<;>simp[*]
 have hx2:(if lZ c then (0:Int)else 2)=0∧lZ c∨(if lZ c then (0:Int)else 2)=2∧¬lZ c:=by split<;>simp[*]
 have hx3:(if jV c.noi then (0:Int)else 2)=0∧jV c.noi∨(if jV c.noi then (0:Int)else 2)=2∧¬jV c.noi:=by split<;>simp[*]
 generalize (if mP c then (0:Int)else 2)=r1 at *;generalize (if lZ c then (0:Int)else 2)=r2 at *;generalize (if jV c.noi then (0:Int)else 2)=r3 at *;refine aJ func11 rfl ntmps11 rfl ⟨aE,.nil⟩ (fun n=>?_);simp only[aG];rcases hx1 with⟨rfl,h1⟩ | ⟨rfl,h1⟩
 ·rw[if_neg (Decidable.not_not.2 h1)]at hC;rcases hx2 with⟨rfl,h2⟩ | ⟨rfl,h2⟩
  ·rw[if_neg (Decidable.not_not.2 h2)]at hC;rcases hx3 with⟨rfl,h3⟩ | ⟨rfl,h3⟩
   ·rw[if_neg (Decidable.not_not.2 h3)]at hC;clear h1 h2 h3;refine aB;refine kG (0::1::2::3::4::5::6::7::8::9::10::[]) ?_;intro _;refine jR;all_goals refine aBw 4 ?_
    all_goals refine aB
    all_goals exact aM rfl rfl (.nil _) ⟨congrArg (Value.int .i64) (by rw[hC];(repeat' split)<;>first|rfl|(exfalso;omega)),rfl⟩
   ·rw[if_pos h3]at hC;subst hC;refine aB;refine kG (0::1::2::3::4::5::6::7::8::9::10::[]) ?_;intro _;refine jR;all_goals refine aBw 4 ?_
    all_goals refine aB
    all_goals exact aM rfl rfl (.nil _) ⟨rfl,rfl⟩
  ·rw[if_pos h2]at hC;subst hC;refine aB;refine kG (0::1::2::3::4::5::6::7::8::9::10::[]) ?_;intro _;refine jR;all_goals refine aBw 4 ?_
   all_goals refine aB
   all_goals exact aM rfl rfl (.nil _) ⟨rfl,rfl⟩
 ·rw[if_pos h1]at hC;subst hC;refine aB;refine kG (0::1::2::3::4::5::6::7::8::9::10::[]) ?_;intro _;refine jR;all_goals refine aBw 4 ?_
  all_goals refine aB
  all_goals exact aM rfl rfl (.nil _) ⟨rfl,rfl⟩⟩
theorem aUn(g:Nat)(s:aK)(a:bQ)(w:World)(hown:aZ [.blk g 133 (aH s a)] w)(hL:kD s):
  aF prog 70 [.pointer (some ⟨g,0,none⟩)] [.blk g 133 (aH s a)] w (fun v S'=>v=.agg #[.int .i64 s.x,.int .i64 s.y]∧S'=[.blk g 133 (aH s a)]):=by
 have i1:=gZ hL;have i2:=kO hL;refine aJ func70 rfl ntmps70 rfl hown (fun _=>?_);simp only[aG];refine aB;refine eC (S':=[.blk g 133 (aH s a)]) aA.au ?_;refine cZ;exact⟨rfl,rfl⟩
