import Derived.Test.YtpmkboockihdbaaGreatP47
set_option maxHeartbeats 512000000
set_option maxRecDepth 4000
set_option linter.unusedVariables false
set_option linter.unusedSimpArgs false
namespace Go.Proofs.YtpmkboockihdbaaGreat
open Go.RowKit _root_.Go.Proofs.Tryz
attribute [local irreducible] OJ J bO Code.wpIn wpListIn Oper.wpIn bodyPost CallsIn aF
theorem aV7(g:Nat)(s:aL)(a:bR)(w:World)(hown:aZ [.blk g 173 (aI s a)] w)(hL:jS s):
  aF prog 40 [.pointer (some ⟨g,0,none⟩)] [.blk g 173 (aI s a)] w (fun v S'=>v=.agg #[.int .i64 s.x,.int .i64 s.y]∧S'=[.blk g 173 (aI s a)]):=by
 have i1:=gT hL;have i2:=jU hL;refine aJ func40 rfl ntmps40 rfl hown (fun _=>?_);simp only[aG];refine aB;refine eD (S':=[.blk g 173 (aI s a)]) aA.au ?_;refine cY;exact⟨rfl,rfl⟩
theorem aNx(L:List Int):xO L=(mI L).1:=by
 unfold xO mI;split
 ·rfl
 ·rw[aOs (aDz L).2]
theorem aNy(L:List Int):0≤(mI L).1∧(mI L).1≤4294967296:=by
 unfold mI;split
 ·decide
 ·have:=aB8 (aDz L).2;dsimp only;omega
def WgR(o:Option (List Int))(v:Value)(S:List HE)(T:List HE):Prop:=(o=none∧v=.tuple #[.slice none 0 0,.bool false]∧S=T)∨∃l A c,o=some l∧v=.tuple #[.slice A l.length c,.bool true]∧S=.row (.slice A l.length c) 2 1 l.length (aC .i64 l)::T
theorem aIj(K:eT)(s0:dU)(f:List Int)(g:bE)(A:Option Addr)(c:Nat)(n:jZ)(z b:Int)(w:World)(hown:aZ (K.H s0) w)(hF:kJ K.ys f K.room)(hk0:cV K.ys f K.room s0 b)(hb:b≤800000000000000000)
  (hr:bF w (aV (K.H s0)) A g.p.length c 1 (aC .i64 g.p)) (hg:cO g) (hx : -4611686018427387904≤g.x∧g.x≤4611686018427387904) (hy : -4611686018427387904≤g.y∧g.y≤4611686018427387904) (hn:gW n) (hz : -4398046511104≤z∧z≤4398046511104) :
  aF prog 14 [.pointer (some ⟨K.g,0,none⟩),.agg (aQ g A c).toArray,.agg (kG n).toArray,.int .i64 z] (K.H s0) w
   (fun v S'=>∃s',cV K.ys f K.room s' (b+20000)∧WgR (oK (wY K.ys) (hY K.ys) f g n z) v S' (K.H s')):=by
 have hm4:=hg.len;have hMe:=fun w hw=>aMa g A c w hw hg hx hy;have hsd:=hg.1;unfold kY at hsd;have nX:=fun i w (hi:i<g.p.length)=>aUd g A c i w hi oo hm4.2 oo hx hy;have hW:oK (wY K.ys) (hY K.ys) f g n z=if eN (wY K.ys) (hY K.ys) f (dM g).1 (dM g).2≠0 then none else some (cA (fun i=>if eN (wY K.ys) (hY K.ys) f (g.x+aU g.w i*g.st) (g.y+aT g.w i*g.st)=0 then oM (qM n (xO (nL (wY K.ys) (hY K.ys) f ((dM g).1/256) ((dM g).2/256) 1)/4)) (lI (wY K.ys) (hY K.ys) f (g.x+aU g.w i*g.st) (g.y+aT g.w i*g.st)-z)else (qM n (xO (nL (wY K.ys) (hY K.ys) f ((dM g).1/256) ((dM g).2/256) 1)/4)).flo) g.p.length):=rfl;rw[hW,aNx];clear hW;have hri:=aNy (nL (wY K.ys) (hY K.ys) f ((dM g).1/256) ((dM g).2/256) 1);have hRo:=fun s1 b1 w ho hk hb=>bAj K s1 f ((dM g).1/256) ((dM g).2/256) 1 b1 w ho hF hk hb;generalize (mI (nL (wY K.ys) (hY K.ys) f ((dM g).1/256) ((dM g).2/256) 1)).1=ro at *;generalize (mI (nL (wY K.ys) (hY K.ys) f ((dM g).1/256) ((dM g).2/256) 1)).2=ro2 at *;generalize dM g=m at *;obtain⟨m1,m2⟩:=m;dsimp only at hMe hRo ⊢;have hwn:=aIm hn (ro/4);obtain⟨N,hN⟩:∃N:Nat,g.p.length=N:=⟨_,rfl⟩;have iW:=widen_cv n (ro/4);generalize hv:qM n (ro/4)=v at *;obtain⟨F,hFF⟩:∃F:Nat→Int,(fun i:Nat=>if eN (wY K.ys) (hY K.ys) f (g.x+aU g.w i*g.st) (g.y+aT g.w i*g.st)=0 then oM v (lI (wY K.ys) (hY K.ys) f (g.x+aU g.w i*g.st) (g.y+aT g.w i*g.st)-z)else v.flo)=F:=⟨_,rfl⟩;rw[hFF];have hlen:=fun i (hi:i≤N)=>aBp F hi;have hset:=fun i (hi:i<N)=>aBq F hi;obtain⟨ns,nf,ng⟩:=n;obtain⟨vs,vf,vg⟩:=v;have hn2:=hn;obtain⟨⟨n1,n2⟩,-⟩:=hn2;have hwn2:=hwn;obtain⟨-,⟨w1,w2⟩,-⟩:=hwn2;obtain⟨gw,gh,gx,gy,gs,p⟩:=g;dsimp only at hr hm4 hMe nX hN hx hy hsd hFF n1 n2 w1 w2 ⊢;dsimp only[aQ,kG]at *;clear hg;refine aJ func14 rfl ntmps14 rfl hown (fun _=>?_);simp only[aG];refine aB;rename_i b5 b6;refine bQ rfl rfl rfl (fun w hw=>hMe w ⟨hr.h.go hw (aD.nil _)⟩) ?_;refine aB;refine lf rfl rfl rfl (S:=K.H s0) (fun w hw ho=>aG7 K s0 f m1 m2 b w ho hF hk0 oo) ?_;rintro v S' ⟨s1,rfl,hk1,rfl⟩;by_cases hc:eN (wY K.ys) (hY K.ys) f m1 m2=0;case neg =>
  rw[if_pos hc];refine aB;exact cM rfl rfl rfl aA.au ⟨s1,hk1.mono oo,.inl ⟨rfl,rfl,rfl⟩⟩
 rw[if_neg (by rw[hc];decide),hc];refine aB;refine lf rfl rfl rfl (S:=K.H s1) (fun w hw ho=>hRo s1 (b+4) w ho hk1 oo) ?_;rintro v S' ⟨s2,rfl,hk2,rfl⟩;refine aB;rename_i bo;subst hN;refine bT (X:=Nat×dU) (fun q=>q.1≤p.length∧cV K.ys f K.room q.2 (b+404+4*(q.1:Int)))
  (fun q=>[(0,.pointer (some ⟨K.g,0,none⟩)),(3,.int .i64 z),(5,.pointer (some ⟨b5,0,none⟩)),(6,.pointer (some ⟨b6,0,none⟩)),(16,.slice (some ⟨bo,0,none⟩) p.length p.length),(55,.int .i64 p.length),(56,.int .i64 q.1)])
  (fun q=>.row (.slice (some ⟨bo,0,none⟩) p.length p.length) 2 1 p.length (aC .i64 (lM F p.length q.1))::K.HC q.2 [.blk b6 25 [.int .i64 vs,.int .i64 vf,.int .i64 vg],.blk b5 37 [.int .i64 gw,.int .i64 gh,.int .i64 gx,.int .i64 gy,.int .i64 gs,.slice A p.length c]]) (fun q=>p.length-q.1) (0,s2) ⟨Nat.zero_le _,hk2.mono (by dsimp only;omega)⟩ ⟨rfl,rfl,rfl,rfl,rfl,rfl,rfl,trivial⟩ (by dsimp only;rw[aHd];exact aA.au) ?_
 rintro⟨i,s3⟩ ⟨hi,hk3⟩;dsimp only at hi hk3 ⊢;rcases Nat.lt_or_ge i p.length with h|h
 ·have hs:=hset i h;have hle:=hlen i hi;have hFi:F i=if eN (wY K.ys) (hY K.ys) f (gx+aU gw i*gs) (gy+aT gw i*gs)=0 then oM ⟨vs,vf,vg⟩ (lI (wY K.ys) (hY K.ys) f (gx+aU gw i*gs) (gy+aT gw i*gs)-z)else vf:=by rw[← hFF]
  have hA2:=fun w=>nX i w h;have hH:=aG6 hF.good.1 (W:=wY K.ys) (H:=hY K.ys) (gx+aU gw i*gs) (gy+aT gw i*gs);have hHt:=fun w ho=>aG7 K s3 f (gx+aU gw i*gs) (gy+aT gw i*gs) (b+404+4*(i:Int)) w ho hF hk3 oo;clear hset hlen hFF nX;generalize gx+aU gw i*gs=px at *;generalize gy+aT gw i*gs=py at *;generalize lI (wY K.ys) (hY K.ys) f px py=hh at *;generalize eN (wY K.ys) (hY K.ys) f px py=cd at *;have iN:CV prog 59 [.agg (kG ⟨vs,vf,vg⟩).toArray,.int .i64 (hh-z)] (.int .i64 (oM ⟨vs,vf,vg⟩ (hh-z))) True:=⟨fun _ w=>(weightN_cv ⟨vs,vf,vg⟩ (hh-z)).h ⟨hwn,by show (-9223372036854775808:Int)≤_∧_≤(9223372036854775807:Int);omega⟩ w⟩;generalize oM ⟨vs,vf,vg⟩ (hh-z)=wv at *;dsimp only[kG]at iN;generalize hpr:lM F p.length i=R at *;refine aB;refine bQ rfl rfl rfl (fun w hw=>hA2 w) ?_;refine aB;refine lf rfl rfl rfl (S:=K.H s3) (fun w hw ho=>hHt w ho) ?_;rintro v S' ⟨s4,rfl,hk4,rfl⟩;by_cases hc0:cd=0
  ·rw[if_pos hc0]at hFi;rw[hFi]at hs;subst hc0;have hl2:(R.set i vf).length=p.length:=by rw[List.length_set];exact hle
   refine aB;refine aN (i+1,s4) ⟨h,hk4.mono (by dsimp only;omega)⟩ (by show p.length-(i+1)<p.length-i;omega) ⟨rfl,rfl,rfl,rfl,rfl,rfl,by simp[aH],trivial⟩ ?_;dsimp only;rw[← hs];try rw[List.set_set]
   exact aA.au
  ·rw[if_neg hc0]at hFi;rw[hFi]at hs;refine aB;all_goals first
    | (exfalso;contradiction)
    | (refine aN (i + 1, s4) ⟨h, hk4.mono (by dsimp only; omega)⟩ (by show p.length - (i + 1) < p.length - i; omega) ⟨rfl, rfl, rfl, rfl, rfl, rfl, by simp [aH], trivial⟩ ?_
       dsimp only;rw [← hs];exact aA.au)
 ·obtain rfl:i=p.length:=oo;rw[aBo];refine aB;refine cM rfl rfl (S':=.row (.slice (some ⟨bo,0,none⟩) p.length p.length) 2 1 p.length (aC .i64 (cA F p.length))::K.H s3) rfl aA.au ⟨s3,hk3.mono oo,.inr ⟨_,some ⟨bo,0,none⟩,p.length,rfl,?_,?_⟩⟩
  ·rw[eP]
  ·rw[eP]
def yT(s:aL):aL :=
 let c:=bB s.g;let raw:=bS s.g c;let g':=cC raw;let n:Int:=g'.w*g'.h
 { s with g:=g',bk:=if c.kind=1 then dO s.bk s.bk.b (2*cT n)else if c.kind=2 then dO s.bk s.bk.b (cT n)else dO s.bk (jD s.bk.b 1 (aM s.g.p s.g.p.length) (aM raw.p raw.p.length)) (cT n),deeds:=s.deeds++[⟨4,cE,0,0,0,[],c⟩] }
theorem aVw(k:Nat)(s:aL)(h:(bB s.g).kind≠0):dY (k+1) s=dY k (yT s):=by rw[dY];dsimp only;rw[if_neg h];rfl
theorem aVx(k:Nat)(s:aL)(h:(bB s.g).kind=0):dY k s=s:=by
 cases k with
 | zero=>rfl
 | succ k=>rw[dY];dsimp only;rw[if_pos h]
structure yA(k i:Nat)(s1 s':aL):Prop where
 g:s'.g=dB s1.g i
 lay:dY (4-i) s'=dY 4 s1
 ok:cO s'.g
 b:0≤s'.bk.b∧s'.bk.b≤1099511627776
 bn:0≤s'.bk.n∧s'.bk.n≤6*(k:Int)+1+i
 dl:s'.deeds.length≤6*k+1+i
 rest:jS s'
theorem yA.zero{k:Nat}{s1:aL}(hg:cO s1.g)(hb:0≤s1.bk.b∧s1.bk.b≤1099511627776)(hn:0≤s1.bk.n∧s1.bk.n≤6*(k:Int)+1)(hd:s1.deeds.length≤6*k+1)(hL:jS s1):yA k 0 s1 s1:=⟨rfl,rfl,hg,hb,oo,oo,hL⟩
theorem yA.next{k i:Nat}{s1 s':aL}(h:yA k i s1 s')(hi:i<4)(hc:(bB s'.g).kind≠0):yA k (i+1) s1 (yT s'):=by
 obtain⟨hch,hp,hz,ho⟩:=aDw h.ok hc;have hcost:0≤cT ((cC (bS s'.g (bB s'.g))).w*(cC (bS s'.g (bB s'.g))).h)∧cT ((cC (bS s'.g (bB s'.g))).w*(cC (bS s'.g (bB s'.g))).h)≤4194400:=rV (by have:=ho.len;rw[← ho.2.1];omega);have hs0:0≤aM s'.g.p s'.g.p.length:=by have:=h.ok.2.2.2.1;have:=h.ok.len;omega
 have hb0:=h.b;have hsc:=zA (b:=s'.bk.b) (most:=1) (s:=aM s'.g.p s'.g.p.length) (z:=aM (bS s'.g (bB s'.g)).p (bS s'.g (bB s'.g)).p.length) hb0 od hs0;have hbn:=h.bn;have hdl:=h.dl;refine⟨?_,?_,ho,?_,?_,?_,⟨h.rest.pl,h.rest.wl⟩⟩
 ·show cC (bS s'.g (bB s'.g))=cC (bS (dB s1.g i) (bB (dB s1.g i)));rw[h.g]
 ·rw[← h.lay,show 4-i=(4-(i+1))+1 by omega,aVw _ _ hc]
 ·show 0≤(if (bB s'.g).kind=1 then _ else if (bB s'.g).kind=2 then _ else _:Bk).b∧(if (bB s'.g).kind=1 then _ else if (bB s'.g).kind=2 then _ else _:Bk).b≤_;generalize cT ((cC (bS s'.g (bB s'.g))).w*(cC (bS s'.g (bB s'.g))).h)=co at *;split
  ·exact sG ⟨hb0,oo⟩
  ·split
   ·exact sG ⟨hb0,oo⟩
   ·exact sG ⟨hsc,oo⟩
 ·have e:(yT s').bk.n=s'.bk.n+1:=by
   show (if (bB s'.g).kind=1 then _ else if (bB s'.g).kind=2 then _ else _:Bk).n=_;split
   ·rfl
   ·split<;>rfl
  rw[e];push_cast;omega
 ·show (s'.deeds++[_]).length≤_;rw[List.length_append,List.length_singleton];omega
def WyI(g b2 k:Nat)(s1:aL)(a1:bR)(i:Nat)(S:List HE):Prop:=∃(s':aL) (a':bR) (ds:List jJ) (Ax:Option Addr) (cx:Nat) (xs:List Int),
 yA k i s1 s'∧(a'.ptr=a1.ptr∧a'.An=a1.An∧a'.cn=a1.cn∧a'.Ai=a1.Ai∧a'.ci=a1.ci∧a'.Am=a1.Am∧a'.cm=a1.cm)∧ds.length=s'.deeds.length ∧
 (i=0∧a'.Ag=a1.Ag∧a'.cg=a1.cg∨a'.Ag=Ax∧a'.cg=cx∧s'.g.p=xs) ∧
 S=[.row (.slice Ax xs.length cx) 2 1 xs.length (aC .i64 xs),.blk b2 61 [.pointer (some ⟨g,0,none⟩)],.blk g 173 (aI s' a'),bK a'.Ad a'.cd ds]
theorem aKl{α:Type}[Inhabited α]{e:α→List Value}{s:Nat}[hE:pX e s](l:List α)(i k q:Nat)(v:Value)(x':α)(hq:q=i*s+k)(hk:k<s)(hx:e x'=(e (l.getD i default)).set k v):aAf (aR e l) q v (aR e (l.set i x')) (i<l.length):=⟨fun h=>by
 subst hq;have e1:=congrArg (aR e) (aF1 l i h);rw[show l.take i++(l.getD i default::l.drop (i+1))=l.take i++([l.getD i default]++l.drop (i+1))from rfl,sS,sS,uF]at e1;have e2:=congrArg (aR e) (aOd l i h x');rw[show l.take i++(x'::l.drop (i+1))=l.take i++([x']++l.drop (i+1))from rfl,sS,sS,uF]at e2;have hl:(aR e (l.take i)).length=i*s:=by rw[lF,List.length_take,Nat.min_eq_left oo]
 have hv:(e (l.getD i default)).length=s:=by have:=lF (e:=e) [l.getD i default];rw[uF]at this;simpa using this
 rw[e1,e2,hx];refine⟨?_,by simp only[List.length_append];omega⟩;rw[← hl,List.set_append_right _ _ oo,Nat.add_sub_cancel_left,List.set_append_left _ _ oo]⟩
def rR(L:List cQ)(x y:Int)(i:Nat):List cQ:=(L.take i).map (fun s=>⟨s.dx-x,s.dy-y,s.z⟩)++L.drop i
theorem aR1(L:List cQ)(x y:Int)(i:Nat):(rR L x y i).length=L.length:=by unfold rR;rw[List.length_append,List.length_map,← List.length_append,List.take_append_drop]
theorem aR0(L:List cQ)(x y:Int)(i:Nat)(h:i<L.length):(rR L x y i).getD i default=L.getD i default:=by unfold rR;rw[List.getD_eq_getElem?_getD,List.getElem?_append_right (by rw[List.length_map,List.length_take];omega),List.length_map,List.length_take,Nat.min_eq_left oo,Nat.sub_self,List.getElem?_drop,Nat.add_zero,← List.getD_eq_getElem?_getD]
theorem aR2(L:List cQ)(x y:Int)(i:Nat)(h:i<L.length):(rR L x y i).set i ⟨(L.getD i default).dx-x,(L.getD i default).dy-y,(L.getD i default).z⟩=rR L x y (i+1):=by
 unfold rR;have hl:((L.take i).map (fun s:cQ=>(⟨s.dx-x,s.dy-y,s.z⟩:cQ))).length=i:=by rw[List.length_map,List.length_take];omega
 rw[List.set_append_right _ _ oo,hl,Nat.sub_self,List.drop_eq_getElem_cons h,List.set_cons_zero,List.take_succ_eq_append_getElem h,List.map_append,List.append_assoc];rw[List.getD_eq_getElem?_getD,List.getElem?_eq_getElem h];rfl
theorem aQz(P:lB):rR (lV P P.n) P.x P.y P.n=fW P:=by unfold rR fW;have:=aA2 P P.n;rw[List.take_of_length_le oo,List.drop_eq_nil_of_le oo,List.append_nil]
theorem aY4(P:lB):(fW P).length=P.n:=by unfold fW;rw[List.length_map,aA2]
section
variable (g:Nat) (T:TypeId) (p r:List Value) (P:lB)
theorem aYk(w:World)(hown:aZ [.blk g T (p++eZ P r)] w)(hok:lQ P):
  aF prog 180 [.pointer (some ⟨g,p.length,none⟩)] [.blk g T (p++eZ P r)] w
   (fun v S'=>∃A c,v=.slice A P.n c∧S'=[.row (.slice A P.n c) 159 3 P.n (aR cD (fW P)),.blk g T (p++eZ P r)]):=by
 have hall:=fun w ho=>aYg g T p r P w ho hok;have hlen:=aA2 P P.n;have hb0:rR (lV P P.n) P.x P.y 0=lV P P.n:=rfl;have hbl:=fun i=>aR1 (lV P P.n) P.x P.y i;have hbg:=fun i h=>aR0 (lV P P.n) P.x P.y i h;have hbs:=fun i h=>aR2 (lV P P.n) P.x P.y i h;have hin:∀i,i<P.n→(-2147483648≤((lV P P.n).getD i default).dx∧((lV P P.n).getD i default).dx≤2147483648)∧(-2147483648≤((lV P P.n).getD i default).dy∧((lV P P.n).getD i default).dy≤2147483648):=fun i hi=>by rw[aN7 P P.n i hi];have:=hok.all ((P.first+i)%64) oo;omega
 rw[← aQz P];obtain⟨l,first,m,x,y,gap⟩:=P;obtain⟨h1,h2,h3,h4,h5,h6⟩:=hok;dsimp only at h1 h2 h3 h4 h5 h6 hall hlen hb0 hbl hbg hbs hin ⊢;dsimp only[eZ]at *;have iL:fT (aR cD l) 192:=⟨by rw[lF,h1]⟩;generalize lV ⟨l,first,m,x,y,gap⟩ m=L at *;refine aJ func180 rfl ntmps180 rfl hown (fun _=>?_);simp only[aG];refine aB;refine lf rfl rfl rfl (S:=[.blk g T (p++(aR cD l++(.int .i64 first::.int .i64 m::.int .i64 x::.int .i64 y::.int .i64 gap::r)))]) (fun w hw ho=>hall w ho) ?_;rintro v S' ⟨A,c,rfl,rfl⟩;refine aB;refine bT (X:=Nat) (fun q=>q≤m) (fun q=>[(0,.pointer (some ⟨g,p.length,none⟩)),(3,.slice A m c),(8,.int .i64 m),(9,.int .i64 q)])
  (fun q=>[.row (.slice A m c) 159 3 m (aR cD (rR L x y q)),.blk g T (p++(aR cD l++(.int .i64 first::.int .i64 m::.int .i64 x::.int .i64 y::.int .i64 gap::r)))]) (fun q=>m-q) 0 (Nat.zero_le _) ⟨rfl,rfl,rfl,rfl,trivial⟩ (by rw[hb0];exact aA.au) ?_
 intro i hi;rcases Nat.lt_or_ge i m with h|h
 ·refine uI (A:=A) (m:=m) (cc:=c) oo (fun ga hga=>?_);subst hga;have e1:=hbl i;have e2:=hbg i oo;have e3:=hbs i oo;have e4:=hin i h;clear hbl hbg hbs hin hall;generalize hB:rR L x y i=B at *;generalize L.getD i default=s at *;obtain⟨sx,sy,sz⟩:=s;dsimp only at e3 e4;have hBi:i<B.length:=oo;have eB:B.getD i default=⟨sx,sy,sz⟩:=e2;have g0:cZ (cD (B.getD i default)) 0 (.int .i64 sx):=⟨by rw[eB];rfl⟩;have iS1:∀v:Int,aAf (aR cD B) (i*3) (.int .i64 v) (aR cD (B.set i ⟨v,sy,sz⟩)) (i<B.length):=fun v=>aKl (e:=cD) B i 0 _ _ ⟨v,sy,sz⟩ oo od (by rw[eB];rfl);have hB2:∀v:Int,(B.set i ⟨v,sy,sz⟩).getD i default=⟨v,sy,sz⟩:=fun v=>by rw[List.getD_eq_getElem?_getD,List.getElem?_set_self hBi];rfl
  have g1:∀v:Int,cZ (cD ((B.set i ⟨v,sy,sz⟩).getD i default)) 1 (.int .i64 sy):=fun v=>⟨by rw[hB2];rfl⟩;have hlB:∀v:Int,i<(B.set i ⟨v,sy,sz⟩).length:=fun v=>by rw[List.length_set];exact hBi
  have iS2:∀u v:Int,aAf (aR cD (B.set i ⟨u,sy,sz⟩)) (i*3+1) (.int .i64 v) (aR cD (B.set i ⟨u,v,sz⟩)) (i<(B.set i ⟨u,sy,sz⟩).length):=fun u v=>by have:=aKl (e:=cD) (B.set i ⟨u,sy,sz⟩) i 1 (i*3+1) (.int .i64 v) ⟨u,v,sz⟩ rfl od (by rw[hB2];rfl);rw[List.set_set]at this;exact this
  have hlB1:=hlB (sx-x);refine aB;exact aN (i+1) h (by show m-(i+1)<m-i;omega) ⟨rfl,rfl,rfl,by simp[aH],trivial⟩ (by rw[← e3];exact aA.au)
 ·obtain rfl:i=m:=oo;refine aB;exact aK rfl rfl aA.au ⟨A,c,rfl,rfl⟩
end
theorem aWy(g:Nat)(s:aL)(a:bR)(w:World)(hown:aZ [.blk g 173 (aI s a)] w)(hok:lQ s.p):
  aF prog 180 [.pointer (some ⟨g,44,none⟩)] [.blk g 173 (aI s a)] w
   (fun v S'=>∃A c,v=.slice A s.p.n c∧S'=[.row (.slice A s.p.n c) 159 3 s.p.n (aR cD (fW s.p)),.blk g 173 (aI s a)]):=by
 have h:=aYk g 173 _ _ s.p w (by rw[← rB s a];exact hown) hok;rw[aBi,← rB s a]at h;exact h
instance navcheck_cv(c:dJ):CV prog 16 [.agg (qP c).toArray] (.int .i64 (oR c)) True:=⟨fun _ w=>by
 have hC:oR c=if ¬nU c then 2 else if ¬nA c then 2 else if ¬gW c.noi then 2 else if c.far<1∨15<c.far∨c.step<64∨2048<c.step∨c.gap<0∨65536<c.gap∨c.need<2∨64<c.need then 2 else if c.meas<0∨3<c.meas∨c.away<0∨30<c.away∨c.num<1∨1048576<c.num∨c.den<1∨1048576<c.den then 1 else if c.times<1∨65536<c.times∨c.spread<0∨85<c.spread then 1 else 0:=rfl;have i1:=rcheck_cv c;have i2:=wcheck_cv c;have i3:CV prog 68 [.agg (kG c.noi).toArray] (.int .i64 (if gW c.noi then 0 else 2)) True:=⟨fun _ w=>by
  by_cases h:gW c.noi
  ·rw[if_pos h];exact(ncheck_cv c.noi).h h w
  ·rw[if_neg h];exact aX6 c.noi h w⟩
 generalize oR c=r at *;have hx1:(if nU c then (0:Int)else 2)=0∧nU c∨(if nU c then (0:Int)else 2)=2∧¬nU c:=by split<;>simp[*]
 have hx2:(if nA c then (0:Int)else 2)=0∧nA c∨(if nA c then (0:Int)else 2)=2∧¬nA c:=by split<;>simp[*]
 have hx3:(if gW c.noi then (0:Int)else 2)=0∧gW c.noi∨(if gW c.noi then (0:Int)else 2)=2∧¬gW c.noi:=by split<;>simp[*]
 generalize (if nU c then (0:Int)else 2)=r1 at *;generalize (if nA c then (0:Int)else 2)=r2 at *;generalize (if gW c.noi then (0:Int)else 2)=r3 at *;refine aJ func16 rfl ntmps16 rfl ⟨aE,.nil⟩ (fun n=>?_);simp only[aG];rcases hx1 with⟨rfl,h1⟩ | ⟨rfl,h1⟩
 ·rw[if_neg (Decidable.not_not.2 h1)]at hC;rcases hx2 with⟨rfl,h2⟩ | ⟨rfl,h2⟩
  ·rw[if_neg (Decidable.not_not.2 h2)]at hC;rcases hx3 with⟨rfl,h3⟩ | ⟨rfl,h3⟩
   ·rw[if_neg (Decidable.not_not.2 h3)]at hC;clear h1 h2 h3;refine aB;refine kC (0::1::2::3::4::5::6::7::8::9::10::[]) ?_;intro _;refine jY;all_goals refine vG 4 ?_
    all_goals refine aB
    all_goals exact aK rfl rfl (.nil _) ⟨congrArg (Value.int .i64) (by rw[hC];(repeat' split)<;>first|rfl|(exfalso;omega)),rfl⟩
   ·rw[if_pos h3]at hC;subst hC;refine aB;refine kC (0::1::2::3::4::5::6::7::8::9::10::[]) ?_;intro _;refine jY;all_goals refine vG 4 ?_
    all_goals refine aB
    all_goals exact aK rfl rfl (.nil _) ⟨rfl,rfl⟩
  ·rw[if_pos h2]at hC;subst hC;refine aB;refine kC (0::1::2::3::4::5::6::7::8::9::10::[]) ?_;intro _;refine jY;all_goals refine vG 4 ?_
   all_goals refine aB
   all_goals exact aK rfl rfl (.nil _) ⟨rfl,rfl⟩
 ·rw[if_pos h1]at hC;subst hC;refine aB;refine kC (0::1::2::3::4::5::6::7::8::9::10::[]) ?_;intro _;refine jY;all_goals refine vG 4 ?_
  all_goals refine aB
  all_goals exact aK rfl rfl (.nil _) ⟨rfl,rfl⟩⟩
