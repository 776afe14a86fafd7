import Derived.Test.YtbhchphfmhmabaaGreatP48
import Derived.Test.YtbhchphfmhmabaaGreatP49
set_option maxHeartbeats 512000000
set_option maxRecDepth 4000
set_option linter.unusedVariables false
set_option linter.unusedSimpArgs false
namespace Go.Proofs.YtbhchphfmhmabaaGreat
open Go.RowKit _root_.Go.Proofs.Tryz
def lW(s:aK)(l:List Int):aK:={ s with void:=false,w:=nF s.cf s.w (cB s.g.p l s.g.p.length) (aL s.g.p s.g.p.length),g:={ s.g with p:=jC s.g.p l },bk:=dC s.bk (gL s.bk.b (gI l l.length) (aL s.g.p s.g.p.length) (cB s.g.p l s.g.p.length)) (cM l.length),deeds:=s.deeds++[⟨3,bW,0,0,0,l,⟨0,0,0,0,0⟩⟩] }
section
variable {W H:Nat} {f:List Int}
theorem bCd{s:aK}{z:Int}(h:rH W H f s.g s.cf.noi z=none):gE W H f s z=({ s with void:=true,w:={ s.w with miss:=s.w.miss+1 } },{ kX with missed:=true }):=by unfold gE;rw[h]
theorem bCe{s:aK}{z:Int}{l:List Int}(h:rH W H f s.g s.cf.noi z=some l):gE W H f s z=(dR 4 (lW s l),{ kX with found:=true }):=by unfold gE;rw[h];rfl
end
def WeR(K:eH)(f:List Int)(g:Nat)(a:bQ)(og:Option Addr×Nat×List Int)(b:Int)(s':aK)(S':List HE):Prop:=∃c1 a2 ds2 Ax cx xs,cO K.ys f K.room c1 b∧(a2.ptr=a.ptr∧a2.An=a.An∧a2.cn=a.cn∧a2.Ai=a.Ai∧a2.ci=a.ci∧a2.Am=a.Am∧a2.cm=a.cm)∧ds2.length=s'.deeds.length ∧
 (((a2.Ag,a2.cg,s'.g.p):Option Addr×Nat×List Int)=(Ax,cx,xs)∨((a2.Ag,a2.cg,s'.g.p):Option Addr×Nat×List Int)=og) ∧
 S'=.row (.slice Ax xs.length cx) 2 1 xs.length (aD .i64 xs)::.blk g 133 (aH s' a2)::bH a2.Ad a2.cd ds2::K.H c1
theorem bCk{W H:Nat}{f:List Int}{s:aK}{k:Nat}(hN:cS s k)(hh:fG s.mode=true){z:Int}{l:List Int}(hwo:rH W H f s.g s.cf.noi z=some l):cH (lW s l).g∧(0≤(lW s l).bk.b∧(lW s l).bk.b≤1099511627776)∧(0≤(lW s l).bk.n∧(lW s l).bk.n≤6*(k:Int)+1)∧(lW s l).deeds.length≤6*k+1∧kD (lW s l):=by
 obtain⟨hg,hfr⟩:=hN.g hh;have hgl:=hg.len;obtain⟨hc1,hc2,hc3,hc4,hc5,hc6,hc7⟩:=qP hN.cf;obtain⟨l1,l2,l3⟩:=aHu hc3 hwo;obtain⟨hz1,ho⟩:=aHt hg l2 l1 l3;have hmi:=zG l2 l.length (Nat.le_refl _);have hs0:0≤aL s.g.p s.g.p.length:=by have:=hg.2.2.2.1;omega
 have hcost:=qR (n:=(l.length:Int)) oo;have hbn:=hN.bn;have hdl:=hN.dl;have hsc:=yE (b:=s.bk.b) (most:=gI l l.length) (s:=aL s.g.p s.g.p.length) (z:=cB s.g.p l s.g.p.length) hN.b hmi.1 hs0;have hp:=rD (k:=s.bk) (b:=gL s.bk.b (gI l l.length) (aL s.g.p s.g.p.length) (cB s.g.p l s.g.p.length)) (more:=cM l.length) ⟨hsc,hcost.1,Int.le_trans hcost.2 od⟩;have hn:(dC s.bk (gL s.bk.b (gI l l.length) (aL s.g.p s.g.p.length) (cB s.g.p l s.g.p.length)) (cM l.length)).n=s.bk.n+1:=rfl;have hwl:(nF s.cf s.w (cB s.g.p l s.g.p.length) (aL s.g.p s.g.p.length)).l.length=32:=by show (s.w.l.set _ _).length=32;rw[List.length_set];exact hN.nvl.wl
 have hpl:=hN.nvl.pl;have e1:(lW s l).g = { s.g with p:=jC s.g.p l }:=rfl;have e2:(lW s l).bk=dC s.bk (gL s.bk.b (gI l l.length) (aL s.g.p s.g.p.length) (cB s.g.p l s.g.p.length)) (cM l.length):=rfl;have e3:(lW s l).deeds.length=s.deeds.length+1:=List.length_append;have e4:(lW s l).p.l=s.p.l:=rfl;have e5:(lW s l).w=nF s.cf s.w (cB s.g.p l s.g.p.length) (aL s.g.p s.g.p.length):=rfl;rw[e1,e2,e3];generalize dC s.bk (gL s.bk.b (gI l l.length) (aL s.g.p s.g.p.length) (cB s.g.p l s.g.p.length)) (cM l.length)=pl at *;exact⟨ho,hp,oo,oo,by rw[e4];exact hpl,by rw[e5];exact hwl⟩
theorem bB8{p:List Int}(h:dY p)(hl:p.length≤4096):0≤aL p p.length∧aL p p.length≤4398046511104:=by
 have key:∀n,n≤p.length→0≤aL p n∧aL p n≤1073741824*(n:Int):=by
  intro n
  induction n with
  | zero=>intro _;exact⟨Int.le_refl _,Int.le_refl _⟩
  | succ n ih =>
   intro hn;have h1:=ih oo;have h2:=h n oo;rw[aL];push_cast;omega
 have:=key _ (Nat.le_refl _);omega
attribute [local irreducible] OJ J bM Code.wpIn wpListIn Oper.wpIn bodyPost CallsIn aF
theorem bCf(K:eH)(c0:dK)(f:List Int)(g k:Nat)(s:aK)(a:bQ)(ds:List jT)(z b:Int)(w:World)(hown:aZ (.blk g 133 (aH s a)::bH a.Ad a.cd ds::K.H c0) w)(hN:cS s k)(hk:k≤16777215)(hh:fG s.mode=true)(hp:a.ptr=some ⟨K.g,0,none⟩)(hF:jS K.ys f K.room)(hk0:cO K.ys f K.room c0 b)(hb:b≤300000000000000000)
  (hz : -4294967296≤z∧z≤4294967296) (hd:ds.length=s.deeds.length) (hr:bP w (bB (.blk g 133 (aH s a)::bH a.Ad a.cd ds::K.H c0)) a.Ag s.g.p.length a.cg 1 (aD .i64 s.g.p))
  (hwo:rH (wY K.ys) (hY K.ys) f s.g s.cf.noi z=none) :
  aF prog 113 [.pointer (some ⟨g,0,none⟩),.int .i64 z] (.blk g 133 (aH s a)::bH a.Ad a.cd ds::K.H c0) w
   (fun v S'=>v=.agg (lR (gE (wY K.ys) (hY K.ys) f s z).2).toArray∧WeR K f g a (a.Ag,a.cg,s.g.p) (b+20000) (gE (wY K.ys) (hY K.ys) f s z).1 S'):=by
 obtain⟨hg,hfr⟩:=hN.g hh;have hgl:=hg.len;obtain⟨hc1,hc2,hc3,hc4,hc5,hc6,hc7⟩:=qP hN.cf;have hxy:(-2305843009213693952≤s.g.x∧s.g.x≤2305843009213693952)∧(-2305843009213693952≤s.g.y∧s.g.y≤2305843009213693952):=by unfold mN at hfr;omega
 have hW:=fun w ho hr=>aOj K c0 f s.g a.Ag a.cg s.cf.noi z b w ho hF hk0 oo hr hg oo oo hc3 oo;rw[hwo]at hW;have i1:=gZ hN.nvl;have i2:=kO hN.nvl;rw[bCd hwo];have hM:=fun w ho=>aWl g { s with void:=true } a w ho ⟨hN.nvl.pl,hN.nvl.wl⟩ (hN.wt oo);refine aJ func113 rfl ntmps113 rfl hown (fun _=>?_);simp only[aG];refine dH (e:=2) (size:=1) ?_;refine aB;rename_i b2 b4;refine lO (X:=dK) (fun q=>cO K.ys f K.room q (b+20000)) (fun q=>[(2,.pointer (some ⟨b2,0,none⟩)),(4,.pointer (some ⟨b4,0,none⟩)),(6,.bool false)]) (fun q=>.blk b4 145 [.bool false,.bool false,.bool false,.bool false,.bool false,.bool false,.bool false,.bool false,.bool false]::.blk b2 62 [.pointer (some ⟨g,0,none⟩)]::.row (.slice none 0 0) 2 1 0 []::.blk g 133 (aH s a)::bH a.Ad a.cd ds::K.H q) ?_ ?_
 ·skip
  refine dM [.blk b2 62 [.pointer (some ⟨g,0,none⟩)],.blk g 133 (aH s a)] [true,true,true,true,true,true,true,true,true,true,true,true,true,true,false,false,false,false,false,false] [14,15,16,17,18,19] aA.au rfl od bD ?_;repeat' (first|refine fN rfl rfl rfl ?_|(refine fM rfl rfl rfl ?_ ?_;(next=>first|exact trivial|omega))|refine fC ?_)
  refine fX ?_;intro _;all_goals refine cE
  all_goals rw[hp]
  all_goals refine lf rfl rfl rfl (S:=K.H c0) (fun w hw ho=>hW w ho ⟨hr.h.go hw aC.au⟩) ?_
  all_goals rintro v S' ⟨c1,hk1,⟨-,rfl,rfl⟩ | ⟨l,A,c,h,-⟩⟩
  all_goals try (cases h;done)
  all_goals refine cE
  all_goals exact aR c1 hk1 trivial ⟨rfl,rfl,rfl,trivial⟩ aA.au
 ·rintro c1 hk1;refine aB;refine lf rfl rfl rfl (S:=[.blk g 133 (aH { s with void:=true } a)]) (fun w hw ho=>hM w ho) ?_;rintro v S' ⟨rfl,rfl⟩;refine aB;refine eC (S':=.row (.slice none 0 0) 2 1 0 []::.blk g 133 (aH { s with void:=true,w:={ s.w with miss:=s.w.miss+1 } } a)::bH a.Ad a.cd ds::K.H c1) aA.au ?_;refine cZ;exact⟨rfl,c1,a,ds,none,0,[],hk1,⟨rfl,rfl,rfl,rfl,rfl,rfl,rfl⟩,hd,.inr rfl,rfl⟩
theorem bCh(K:eH)(c0:dK)(f:List Int)(g k:Nat)(s:aK)(a:bQ)(ds:List jT)(z b:Int)(w:World)(hown:aZ (.blk g 133 (aH s a)::bH a.Ad a.cd ds::K.H c0) w)(hN:cS s k)(hk:k≤16777215)(hh:fG s.mode=true)(hp:a.ptr=some ⟨K.g,0,none⟩)(hF:jS K.ys f K.room)(hk0:cO K.ys f K.room c0 b)(hb:b≤300000000000000000)
  (hz : -4294967296≤z∧z≤4294967296) (hd:ds.length=s.deeds.length) (hr:bP w (bB (.blk g 133 (aH s a)::bH a.Ad a.cd ds::K.H c0)) a.Ag s.g.p.length a.cg 1 (aD .i64 s.g.p))
  (l:List Int) (hwo:rH (wY K.ys) (hY K.ys) f s.g s.cf.noi z=some l) :
  aF prog 113 [.pointer (some ⟨g,0,none⟩),.int .i64 z] (.blk g 133 (aH s a)::bH a.Ad a.cd ds::K.H c0) w
   (fun v S'=>v=.agg (lR (gE (wY K.ys) (hY K.ys) f s z).2).toArray∧WeR K f g a (a.Ag,a.cg,s.g.p) (b+20000) (gE (wY K.ys) (hY K.ys) f s z).1 S'):=by
 obtain⟨hg,hfr⟩:=hN.g hh;have hgl:=hg.len;obtain⟨hc1,hc2,hc3,hc4,hc5,hc6,hc7⟩:=qP hN.cf;have hxy:(-2305843009213693952≤s.g.x∧s.g.x≤2305843009213693952)∧(-2305843009213693952≤s.g.y∧s.g.y≤2305843009213693952):=by unfold mN at hfr;omega
 have hW:=fun w ho hr=>aOj K c0 f s.g a.Ag a.cg s.cf.noi z b w ho hF hk0 oo hr hg oo oo hc3 oo;rw[hwo]at hW;have i1:=gZ hN.nvl;have i2:=kO hN.nvl;rw[bCe hwo];obtain⟨l1,l2,l3⟩:=aHu hc3 hwo;obtain⟨hz1,ho⟩:=aHt hg l2 l1 l3;have hsum:=fun w hw=>aAl s.g a.Ag a.cg w hw hg.2.2.1 hgl.2;have hwg:=fun Al cl w hr hrl=>aOi s.g a.Ag a.cg Al cl l w hr hrl hg.2.2.1 l2 l1 hgl hz1;have hfo:=fun w ho=>aWk g { s with void:=false } a w (cB s.g.p l s.g.p.length) (aL s.g.p s.g.p.length) ho ⟨hN.nvl.pl,hN.nvl.wl⟩ (hN.wt oo);have hwk:=bCk hN hh hwo;have hmo:gI l s.g.p.length=gI l l.length:=by rw[l1]
 rw[hmo]at hwg;have hmi:=zG l2 l.length (Nat.le_refl _);have hwi:=yK hg.2.2.1 l2 l1 s.g.p.length (Nat.le_refl _);have hs0:0<aL s.g.p s.g.p.length∧aL s.g.p s.g.p.length≤1073741824:=by have:=hg.2.2.2.1;have:=hg.2.2.2.2;omega
 have hw1:lW s l = { s with void:=false,w:=nF s.cf s.w (cB s.g.p l s.g.p.length) (aL s.g.p s.g.p.length),g:={ s.g with p:=jC s.g.p l },bk:=dC s.bk (gL s.bk.b (gI l l.length) (aL s.g.p s.g.p.length) (cB s.g.p l s.g.p.length)) (cM l.length),deeds:=s.deeds++[⟨3,bW,0,0,0,l,⟨0,0,0,0,0⟩⟩] }:=rfl;have hfl:(nF s.cf s.w (cB s.g.p l s.g.p.length) (aL s.g.p s.g.p.length)).l.length=32:=by show (s.w.l.set _ _).length=32;rw[List.length_set];exact hN.nvl.wl
 generalize cB s.g.p l s.g.p.length=ws at *;generalize aL s.g.p s.g.p.length=sm at *;generalize gI l l.length=mo at *;generalize jC s.g.p l=q at *;have hb0:=hN.b;have hbn:=hN.bn;have hdl:=hN.dl;have iB:=bweigh_cv s.bk (l.length:Int) mo sm ws;have hfo2:=fun w ho=>hfo w ho ⟨hz1,oo⟩ hs0;clear hfo hmo;have i3:fF (aD .i64 (nF s.cf s.w ws sm).l) 32:=⟨by rw[fW,hfl]⟩;refine uR func113 rfl ntmps113 rfl hown (fun _=>?_);simp only[aG];refine aB;rename_i b2 b4;refine lO (X:=dK×Option Addr×Nat) (fun q=>cO K.ys f K.room q.1 (b+20000)) (fun q=>[(2,.pointer (some ⟨b2,0,none⟩)),(4,.pointer (some ⟨b4,0,none⟩)),(5,.slice q.2.1 l.length q.2.2),(6,.bool true)]) (fun q=>.row (.slice q.2.1 l.length q.2.2) 2 1 l.length (aD .i64 l)::.blk b4 145 [.bool false,.bool false,.bool false,.bool false,.bool false,.bool false,.bool false,.bool false,.bool false]::.blk b2 62 [.pointer (some ⟨g,0,none⟩)]::.blk g 133 (aH s a)::bH a.Ad a.cd ds::K.H q.1) ?_ ?_
 ·skip
  refine dM [.blk b2 62 [.pointer (some ⟨g,0,none⟩)],.blk g 133 (aH s a)] [true,true,true,true,true,true,true,true,true,true,true,true,true,true,false,false,false,false,false,false] [14,15,16,17,18,19] aA.au rfl od bD ?_;repeat' (first|refine fN rfl rfl rfl ?_|(refine fM rfl rfl rfl ?_ ?_;(next=>first|exact trivial|omega))|refine fC ?_)
  refine fX ?_;intro _;all_goals refine cE
  all_goals rw[hp]
  all_goals refine lf rfl rfl rfl (S:=K.H c0) (fun w hw ho=>hW w ho ⟨hr.h.go hw aC.au⟩) ?_
  all_goals rintro v S' ⟨c1,hk1,⟨h,-⟩ | ⟨l',A,c,h,rfl,rfl⟩⟩
  all_goals try (cases h;done)
  all_goals (injection h with h;subst h)
  all_goals refine cE
  all_goals exact aR (c1,A,c) hk1 trivial ⟨rfl,rfl,rfl,rfl,trivial⟩ aA.au
 ·rintro⟨c1,Al,cl⟩ hk1;dsimp only at hk1 ⊢;clear hW;refine aB;refine bU rfl rfl rfl (fun w hw=>hsum w ⟨hr.h.go hw (aC.nil _)⟩) ?_;refine aB;refine lf rfl rfl rfl (S:=[]) (fun w hw ho=>hwg Al cl w ⟨hr.h.go hw (aC.nil _)⟩ ⟨Ro.row hw (aC.nil _) (by refine cF)⟩) ?_;rintro v S' ⟨u,rfl,A2,c2,rfl,rfl⟩;dsimp only[aQ];refine aB;rename_i b8 b9;refine dM [.blk b2 62 [.pointer (some ⟨g,0,none⟩)],.blk b9 266 (cA ws)] [true,true,true,true,true,false] [5] aA.au rfl od bD ?_;repeat' (first|refine fN rfl rfl rfl ?_|(refine fM rfl rfl rfl ?_ ?_;(next=>first|exact trivial|omega))|refine fC ?_)
  refine fX ?_;intro _;all_goals refine cE
  refine lf rfl rfl rfl (S:=[.blk g 133 (aH { s with void:=false } a)]) (fun w hw ho=>hfo2 w ho) ?_;rintro v S' ⟨rfl,rfl⟩;dsimp only;all_goals refine cE
  refine lO (X:=Unit) (fun _=>True) (fun _=>[(2,.pointer (some ⟨b2,0,none⟩)),(4,.pointer (some ⟨b4,0,none⟩)),(5,.slice Al l.length cl)])
   (fun _=>.row (.slice A2 q.length c2) 2 1 q.length (aD .i64 q)::.blk b4 145 [.bool false,.bool false,.bool false,.bool false,.bool false,.bool false,.bool false,.bool false,.bool false]::.blk b2 62 [.pointer (some ⟨g,0,none⟩)]::.blk g 133 (aH { s with void:=false,w:=nF s.cf s.w ws sm,g:={ s.g with p:=q },bk:=dC s.bk (gL s.bk.b mo sm ws) (cM l.length) } { a with Ag:=A2,cg:=c2 })::bH a.Ad a.cd ds::K.H c1) ?_ ?_
  ·refine dM [.blk b2 62 [.pointer (some ⟨g,0,none⟩)],.blk b8 126 [.int .i64 s.g.w,.int .i64 s.g.h,.int .i64 s.g.x,.int .i64 s.g.y,.int .i64 s.g.st,.slice A2 q.length c2],.blk b9 266 (cA ws)] [true,true,true,true,true,true,false,true,true,true,true,true,false,false,false,false,false,false,false] [6,12,13,14,15,16,17,18] aA.au rfl od bD ?_;repeat' (first|refine fN rfl rfl rfl ?_|(refine fM rfl rfl rfl ?_ ?_;(next=>first|exact trivial|omega))|refine fC ?_)
   refine fX ?_;intro _;all_goals refine cE
   all_goals exact aR () trivial trivial ⟨rfl,rfl,rfl,trivial⟩ aA.au
  rintro _ -;have iU:tD mT [.int .i64 3,.int .i64 0,.int .i64 0,.int .i64 0,.int .i64 0,.int .i64 0,.slice none 0 0,.int .i64 0,.int .i64 0,.int .i64 0,.slice Al l.length cl,.int .i64 0,.int .i64 0,.int .i64 0,.int .i64 0,.int .i64 0] ⟨3,0,0,0,0,0,none,0,0,0,0,0,Al,l.length,cl,0,0,0,0,0⟩:=⟨rfl⟩;have ed:bH a.Ad a.cd ds=.row (.slice a.Ad s.deeds.length a.cd) 212 16 s.deeds.length (aO mT ds):=by rw[bH,hd]
  have e:(ds++[(⟨3,0,0,0,0,0,none,0,0,0,0,0,Al,l.length,cl,0,0,0,0,0⟩:jT)]).length=(s.deeds++[(⟨3,bW,0,0,0,l,⟨0,0,0,0,0⟩⟩:mM)]).length:=by rw[List.length_append,List.length_append,hd];rfl
  rw[ed];refine aBx ?_;refine lO (X:=Option Addr×Nat) (fun _=>True) (fun _=>[(2,.pointer (some ⟨b2,0,none⟩)),(4,.pointer (some ⟨b4,0,none⟩))])
   (fun z=>.row (.slice A2 q.length c2) 2 1 q.length (aD .i64 q)::.blk b4 145 [.bool false,.bool false,.bool false,.bool false,.bool false,.bool false,.bool false,.bool false,.bool false]::.blk b2 62 [.pointer (some ⟨g,0,none⟩)]::.blk g 133 (aH { s with void:=false,w:=nF s.cf s.w ws sm,g:={ s.g with p:=q },bk:=dC s.bk (gL s.bk.b mo sm ws) (cM l.length),deeds:=s.deeds++[⟨3,bW,0,0,0,l,⟨0,0,0,0,0⟩⟩] } { a with Ag:=A2,cg:=c2,Ad:=z.1,cd:=z.2 })::.row (.slice z.1 (s.deeds++[(⟨3,bW,0,0,0,l,⟨0,0,0,0,0⟩⟩:mM)]).length z.2) 212 16 (s.deeds++[(⟨3,bW,0,0,0,l,⟨0,0,0,0,0⟩⟩:mM)]).length (aO mT (ds++[⟨3,0,0,0,0,0,none,0,0,0,0,0,Al,l.length,cl,0,0,0,0,0⟩]))::K.H c1) ?_ ?_
  ·dsimp only[aH,vK];refine dM [.blk b2 62 [.pointer (some ⟨g,0,none⟩)]] [true,true,true,true,false,true,false,false,false,false,false,false] [4,6,7,8,9,10,11] aA.au rfl od bD ?_;repeat' (first|refine fN rfl rfl rfl ?_|(refine fM rfl rfl rfl ?_ ?_;(next=>first|exact trivial|omega))|refine fC ?_)
   refine fX ?_;intro _;all_goals refine cE
   all_goals rename_i A3 c3
   all_goals rw[e]
   all_goals exact aR (A3,c3) trivial trivial ⟨rfl,rfl,trivial⟩ aA.au
  rintro⟨A3,c3⟩ -;dsimp only;rw[← e];rw[← hw1];obtain⟨hg1,hb1,hbn1,hdl1,hL1⟩:=hwk;have hnr:yS (lW s l).g:=by rw[hw1];exact hxy
  have hI0:=xF.zero (k:=k) hg1 hb1 hbn1 hdl1 hL1;have e1:(ds++[(⟨3,0,0,0,0,0,none,0,0,0,0,0,Al,l.length,cl,0,0,0,0,0⟩:jT)]).length=(lW s l).deeds.length:=by rw[hw1];exact e
  have egp:(lW s l).g.p=q:=by rw[hw1]
  have ego:(lW s l).g.p.length=q.length:=by rw[egp]
  clear hw1 e hwg hsum hfo2 iB iU ed hgl i1 i2 i3 hr hN hown;rw[← egp];clear egp ego;generalize hs1:lW s l=s1 at *;obtain⟨ds1,hds1⟩:∃x,ds++[(⟨3,0,0,0,0,0,none,0,0,0,0,0,Al,l.length,cl,0,0,0,0,0⟩:jT)]=x:=⟨_,rfl⟩;rw[hds1]at e1 ⊢;have j1:=gZ hL1;have j2:=kO hL1;refine aB;refine lf rfl rfl rfl (S:=[]) (fun w hw ho=>aZw s1.g A2 c2 w) ?_;rintro v S' ⟨gb,rfl,rfl⟩;refine aB;refine dH (e:=2) (size:=1) ?_;refine aR9 (gb:=gb) (g:=s1.g) (A:=A2) (c:=c2) (S:=[.row (.slice none 0 0) 2 1 0 [],.blk b2 62 [.pointer (some ⟨g,0,none⟩)],.blk g 133 (aH s1 { a with Ag:=A2,cg:=c2,Ad:=A3,cd:=c3 }),bH A3 c3 ds1]) (WyI g b2 k s1 { a with Ag:=A2,cg:=c2,Ad:=A3,cd:=c3 }) rfl aC.au hg1 hnr (by refine cF) ⟨s1,{ a with Ag:=A2,cg:=c2,Ad:=A3,cd:=c3 },ds1,none,0,[],hI0,⟨rfl,rfl,rfl,rfl,rfl,rfl,rfl⟩,e1,.inl ⟨rfl,rfl,rfl⟩,rfl⟩ ?_ ?_
  ·rintro lp i S1 A' c' hi hC ⟨s',a',ds',Ax,cx,xs,hI,⟨q1,q2,q3,q4,q5,q6,q7⟩,hdl',-,rfl⟩ w1 ho1 hro hra;have hkk:(aW s'.g).kind≠0:=by rw[hI.g];exact hC i oo
   have hin:=aKg hg1 hnr i oo (hC.down oo);rw[← hI.g]at hra hin ⊢;have hst:=aEs hI.ok hkk;have hnx:=hI.next hi hkk;have hDo:=fun w hw=>aN0 s'.g (aW s'.g) A' c' w hw hI.ok hin.2.1 hin.2.2 hst;have hl1:xW s' = { s' with g:=bX (bN s'.g (aW s'.g)),bk:=if (aW s'.g).kind=1 then dC s'.bk s'.bk.b (2*cM ((bX (bN s'.g (aW s'.g))).w*(bX (bN s'.g (aW s'.g))).h))else if (aW s'.g).kind=2 then dC s'.bk s'.bk.b (cM ((bX (bN s'.g (aW s'.g))).w*(bX (bN s'.g (aW s'.g))).h))else dC s'.bk (gL s'.bk.b 1 (aL s'.g.p s'.g.p.length) (aL (bN s'.g (aW s'.g)).p (bN s'.g (aW s'.g)).p.length)) (cM ((bX (bN s'.g (aW s'.g))).w*(bX (bN s'.g (aW s'.g))).h)),deeds:=s'.deeds++[⟨4,bW,0,0,0,[],aW s'.g⟩] }:=rfl;have hkp:=bB8 hst.2.1 hst.2.2.2.2;have hok2:=hst.2.2.2.1;have hol2:=hok2.len;have hwh:=hok2.2.1;have hsm2:0≤aL s'.g.p s'.g.p.length∧aL s'.g.p s'.g.p.length≤1073741824:=by have:=hI.ok.2.2.2.1;have:=hI.ok.2.2.2.2;have:=hI.ok.len;omega
   have hb2:=hI.b;have hbn2:=hI.bn;have hdl2:=hI.dl;have hst1:=hst.1;have hLs:=hI.rest;have j1:=gZ hLs;have j2:=kO hLs;clear hst hok2 hI hI0 hg1 hnr hb1 hbn1 hdl1;generalize aL s'.g.p s'.g.p.length=sm2 at *;generalize hce:aW s'.g=ce at *;generalize aL (bN s'.g ce).p (bN s'.g ce).p.length=kp at *;generalize bX (bN s'.g ce)=ng at *;obtain⟨nw,nh,nx,ny,ns,np⟩:=ng;obtain⟨sk,sx,sy,sw,sh⟩:=ce;dsimp only at *;refine uB (N:=170) ho1 rfl aE (fun n=>?_);simp only[over];dsimp only[rG];rcases hst1 with⟨rfl,-⟩ | ⟨rfl,-⟩ | ⟨rfl,-⟩
   ·have hlay:xW s' = { s' with g:=⟨nw,nh,nx,ny,ns,np⟩,bk:=dC s'.bk s'.bk.b (2*cM (nw*nh)),deeds:=s'.deeds++[⟨4,bW,0,0,0,[],⟨1,sx,sy,sw,sh⟩⟩] }:=by rw[hl1];rfl
    rw[hlay]at hnx;have iB:=bsplit_cv s'.bk (nw*nh);have iU:tD mT [.int .i64 4,.int .i64 0,.int .i64 0,.int .i64 0,.int .i64 0,.int .i64 0,.slice none 0 0,.int .i64 0,.int .i64 0,.int .i64 0,.slice none 0 0,.int .i64 1,.int .i64 sx,.int .i64 sy,.int .i64 sw,.int .i64 sh] ⟨4,0,0,0,0,0,none,0,0,0,0,0,none,0,0,1,sx,sy,sw,sh⟩:=⟨rfl⟩;have ed:bH a'.Ad a'.cd ds'=.row (.slice a'.Ad s'.deeds.length a'.cd) 212 16 s'.deeds.length (aO mT ds'):=by rw[bH,hdl']
    have e:(ds'++[(⟨4,0,0,0,0,0,none,0,0,0,0,0,none,0,0,1,sx,sy,sw,sh⟩:jT)]).length=(s'.deeds++[(⟨4,bW,0,0,0,[],⟨1,sx,sy,sw,sh⟩⟩:mM)]).length:=by rw[List.length_append,List.length_append,hdl'];rfl
    refine aB;refine tG ?_;refine aB;refine lf rfl rfl rfl (S:=[]) (fun w hw ho=>hDo w ⟨hra.h.go hw (aC.nil _)⟩) ?_;rintro v S' ⟨u,rfl,An,cn,rfl,rfl⟩;dsimp only[aQ];refine aB;rename_i b12 b13 b14;refine dM [.blk b2 62 [.pointer (some ⟨g,0,none⟩)],.blk b14 126 [.int .i64 nw,.int .i64 nh,.int .i64 nx,.int .i64 ny,.int .i64 ns,.slice An np.length cn]] [true,true,true,true,false,true,false,false,false,false,false] [4,6,7,8,9,10] aA.au rfl od bD ?_;repeat' (first|refine fN rfl rfl rfl ?_|(refine fM rfl rfl rfl ?_ ?_;(next=>first|exact trivial|omega))|refine fC ?_)
    refine fX ?_;intro _;all_goals refine cE
    all_goals rw[ed]
    all_goals refine dM [.blk b2 62 [.pointer (some ⟨g,0,none⟩)],.blk b13 210 [.int .i64 1,.int .i64 sx,.int .i64 sy,.int .i64 sw,.int .i64 sh]] [true,true,true,true,false,true,false,false,false,false,false,false] [4,6,7,8,9,10,11] aA.au rfl od bD ?_
    repeat' (first|refine fN rfl rfl rfl ?_|(refine fM rfl rfl rfl ?_ ?_;(next=>first|exact trivial|omega))|refine fC ?_)
    refine fX ?_;intro _;all_goals refine cE
    all_goals rename_i A4 c4
    all_goals rw[e]
    all_goals refine qO (S':=[_,.row (.slice An np.length cn) 2 1 np.length (aD .i64 np),.blk b2 62 [.pointer (some ⟨g,0,none⟩)],.blk g 133 (aH { s' with g:=⟨nw,nh,nx,ny,ns,np⟩,bk:=dC s'.bk s'.bk.b (2*cM (nw*nh)),deeds:=s'.deeds++[⟨4,bW,0,0,0,[],⟨1,sx,sy,sw,sh⟩⟩] } { a' with Ag:=An,cg:=cn,Ad:=A4,cd:=c4 }),.row (.slice A4 (s'.deeds++[(⟨4,bW,0,0,0,[],⟨1,sx,sy,sw,sh⟩⟩:mM)]).length c4) 212 16 (s'.deeds++[(⟨4,bW,0,0,0,[],⟨1,sx,sy,sw,sh⟩⟩:mM)]).length (aO mT (ds'++[⟨4,0,0,0,0,0,none,0,0,0,0,0,none,0,0,1,sx,sy,sw,sh⟩]))]) aA.au ⟨rfl,_,rfl,_,{ a' with Ag:=An,cg:=cn,Ad:=A4,cd:=c4 },ds'++[⟨4,0,0,0,0,0,none,0,0,0,0,0,none,0,0,1,sx,sy,sw,sh⟩],An,cn,np,hnx,⟨q1,q2,q3,q4,q5,q6,q7⟩,e,.inr ⟨rfl,rfl,rfl⟩,by rw[bH,e]⟩
   ·have hlay:xW s' = { s' with g:=⟨nw,nh,nx,ny,ns,np⟩,bk:=dC s'.bk s'.bk.b (cM (nw*nh)),deeds:=s'.deeds++[⟨4,bW,0,0,0,[],⟨2,sx,sy,sw,sh⟩⟩] }:=by rw[hl1];rfl
    rw[hlay]at hnx;have iB:=bjoin_cv s'.bk (nw*nh);have iU:tD mT [.int .i64 4,.int .i64 0,.int .i64 0,.int .i64 0,.int .i64 0,.int .i64 0,.slice none 0 0,.int .i64 0,.int .i64 0,.int .i64 0,.slice none 0 0,.int .i64 2,.int .i64 sx,.int .i64 sy,.int .i64 sw,.int .i64 sh] ⟨4,0,0,0,0,0,none,0,0,0,0,0,none,0,0,2,sx,sy,sw,sh⟩:=⟨rfl⟩;have ed:bH a'.Ad a'.cd ds'=.row (.slice a'.Ad s'.deeds.length a'.cd) 212 16 s'.deeds.length (aO mT ds'):=by rw[bH,hdl']
    have e:(ds'++[(⟨4,0,0,0,0,0,none,0,0,0,0,0,none,0,0,2,sx,sy,sw,sh⟩:jT)]).length=(s'.deeds++[(⟨4,bW,0,0,0,[],⟨2,sx,sy,sw,sh⟩⟩:mM)]).length:=by rw[List.length_append,List.length_append,hdl'];rfl
    refine aB;refine tG ?_;refine aB;refine lf rfl rfl rfl (S:=[]) (fun w hw ho=>hDo w ⟨hra.h.go hw (aC.nil _)⟩) ?_;rintro v S' ⟨u,rfl,An,cn,rfl,rfl⟩;dsimp only[aQ];refine aB;rename_i b12 b13 b14;refine dM [.blk b2 62 [.pointer (some ⟨g,0,none⟩)],.blk b14 126 [.int .i64 nw,.int .i64 nh,.int .i64 nx,.int .i64 ny,.int .i64 ns,.slice An np.length cn]] [true,true,true,true,false,true,false,false,false,false,false] [4,6,7,8,9,10] aA.au rfl od bD ?_;repeat' (first|refine fN rfl rfl rfl ?_|(refine fM rfl rfl rfl ?_ ?_;(next=>first|exact trivial|omega))|refine fC ?_)
    refine fX ?_;intro _;all_goals refine cE
    all_goals rw[ed]
    all_goals refine dM [.blk b2 62 [.pointer (some ⟨g,0,none⟩)],.blk b13 210 [.int .i64 2,.int .i64 sx,.int .i64 sy,.int .i64 sw,.int .i64 sh]] [true,true,true,true,false,true,false,false,false,false,false,false] [4,6,7,8,9,10,11] aA.au rfl od bD ?_
    repeat' (first|refine fN rfl rfl rfl ?_|(refine fM rfl rfl rfl ?_ ?_;(next=>first|exact trivial|omega))|refine fC ?_)
    refine fX ?_;intro _;all_goals refine cE
    all_goals rename_i A4 c4
    all_goals rw[e]
    all_goals refine qO (S':=[_,.row (.slice An np.length cn) 2 1 np.length (aD .i64 np),.blk b2 62 [.pointer (some ⟨g,0,none⟩)],.blk g 133 (aH { s' with g:=⟨nw,nh,nx,ny,ns,np⟩,bk:=dC s'.bk s'.bk.b (cM (nw*nh)),deeds:=s'.deeds++[⟨4,bW,0,0,0,[],⟨2,sx,sy,sw,sh⟩⟩] } { a' with Ag:=An,cg:=cn,Ad:=A4,cd:=c4 }),.row (.slice A4 (s'.deeds++[(⟨4,bW,0,0,0,[],⟨2,sx,sy,sw,sh⟩⟩:mM)]).length c4) 212 16 (s'.deeds++[(⟨4,bW,0,0,0,[],⟨2,sx,sy,sw,sh⟩⟩:mM)]).length (aO mT (ds'++[⟨4,0,0,0,0,0,none,0,0,0,0,0,none,0,0,2,sx,sy,sw,sh⟩]))]) aA.au ⟨rfl,_,rfl,_,{ a' with Ag:=An,cg:=cn,Ad:=A4,cd:=c4 },ds'++[⟨4,0,0,0,0,0,none,0,0,0,0,0,none,0,0,2,sx,sy,sw,sh⟩],An,cn,np,hnx,⟨q1,q2,q3,q4,q5,q6,q7⟩,e,.inr ⟨rfl,rfl,rfl⟩,by rw[bH,e]⟩
   ·have hlay:xW s' = { s' with g:=⟨nw,nh,nx,ny,ns,np⟩,bk:=dC s'.bk (gL s'.bk.b 1 sm2 kp) (cM (nw*nh)),deeds:=s'.deeds++[⟨4,bW,0,0,0,[],⟨3,sx,sy,sw,sh⟩⟩] }:=by rw[hl1];rfl
    rw[hlay]at hnx;have iB:=bcut_cv s'.bk (nw*nh) sm2 kp;have iU:tD mT [.int .i64 4,.int .i64 0,.int .i64 0,.int .i64 0,.int .i64 0,.int .i64 0,.slice none 0 0,.int .i64 0,.int .i64 0,.int .i64 0,.slice none 0 0,.int .i64 3,.int .i64 sx,.int .i64 sy,.int .i64 sw,.int .i64 sh] ⟨4,0,0,0,0,0,none,0,0,0,0,0,none,0,0,3,sx,sy,sw,sh⟩:=⟨rfl⟩;have ed:bH a'.Ad a'.cd ds'=.row (.slice a'.Ad s'.deeds.length a'.cd) 212 16 s'.deeds.length (aO mT ds'):=by rw[bH,hdl']
    have e:(ds'++[(⟨4,0,0,0,0,0,none,0,0,0,0,0,none,0,0,3,sx,sy,sw,sh⟩:jT)]).length=(s'.deeds++[(⟨4,bW,0,0,0,[],⟨3,sx,sy,sw,sh⟩⟩:mM)]).length:=by rw[List.length_append,List.length_append,hdl'];rfl
    refine aB;refine tG ?_;refine aB;refine lf rfl rfl rfl (S:=[]) (fun w hw ho=>hDo w ⟨hra.h.go hw (aC.nil _)⟩) ?_;rintro v S' ⟨u,rfl,An,cn,rfl,rfl⟩;dsimp only[aQ];refine aB;rename_i b12 b13 b14;refine dM [.blk b2 62 [.pointer (some ⟨g,0,none⟩)],.blk b14 126 [.int .i64 nw,.int .i64 nh,.int .i64 nx,.int .i64 ny,.int .i64 ns,.slice An np.length cn]] [true,true,true,true,false,true,false,true,true,false,false,false,false] [4,6,9,10,11,12] aA.au rfl od bD ?_;repeat' (first|refine fN rfl rfl rfl ?_|(refine fM rfl rfl rfl ?_ ?_;(next=>first|exact trivial|omega))|refine fC ?_)
    refine fX ?_;intro _;all_goals refine cE
    all_goals rw[ed]
    all_goals refine dM [.blk b2 62 [.pointer (some ⟨g,0,none⟩)],.blk b13 210 [.int .i64 3,.int .i64 sx,.int .i64 sy,.int .i64 sw,.int .i64 sh]] [true,true,true,true,false,true,false,false,false,false,false,false] [4,6,7,8,9,10,11] aA.au rfl od bD ?_
    repeat' (first|refine fN rfl rfl rfl ?_|(refine fM rfl rfl rfl ?_ ?_;(next=>first|exact trivial|omega))|refine fC ?_)
    refine fX ?_;intro _;all_goals refine cE
    all_goals rename_i A4 c4
    all_goals rw[e]
    all_goals refine qO (S':=[_,.row (.slice An np.length cn) 2 1 np.length (aD .i64 np),.blk b2 62 [.pointer (some ⟨g,0,none⟩)],.blk g 133 (aH { s' with g:=⟨nw,nh,nx,ny,ns,np⟩,bk:=dC s'.bk (gL s'.bk.b 1 sm2 kp) (cM (nw*nh)),deeds:=s'.deeds++[⟨4,bW,0,0,0,[],⟨3,sx,sy,sw,sh⟩⟩] } { a' with Ag:=An,cg:=cn,Ad:=A4,cd:=c4 }),.row (.slice A4 (s'.deeds++[(⟨4,bW,0,0,0,[],⟨3,sx,sy,sw,sh⟩⟩:mM)]).length c4) 212 16 (s'.deeds++[(⟨4,bW,0,0,0,[],⟨3,sx,sy,sw,sh⟩⟩:mM)]).length (aO mT (ds'++[⟨4,0,0,0,0,0,none,0,0,0,0,0,none,0,0,3,sx,sy,sw,sh⟩]))]) aA.au ⟨rfl,_,rfl,_,{ a' with Ag:=An,cg:=cn,Ad:=A4,cd:=c4 },ds'++[⟨4,0,0,0,0,0,none,0,0,0,0,0,none,0,0,3,sx,sy,sw,sh⟩],An,cn,np,hnx,⟨q1,q2,q3,q4,q5,q6,q7⟩,e,.inr ⟨rfl,rfl,rfl⟩,by rw[bH,e]⟩
  ·rintro d i S1 hi hC hend ⟨s',a',ds',Ax,cx,xs,hI,⟨q1,q2,q3,q4,q5,q6,q7⟩,hdl',hx,rfl⟩;have hfin:dR 4 s1=s':=by
    rw[← hI.lay];rcases hend with rfl|h0
    ·rfl
    ·exact aVd _ _ (by rw[hI.g];exact h0)
   rw[hfin];have hgi:=hI.g;clear hI0 hI;rcases hx with⟨rfl,hx1,hx2⟩ | ⟨rfl,rfl,rfl⟩
   ·have hgp:s'.g=s1.g:=hgi;refine aB;refine qW (Ds:=[d]) (S':=.row (.slice A2 s1.g.p.length c2) 2 1 s1.g.p.length (aD .i64 s1.g.p)::.blk g 133 (aH s' a')::bH a'.Ad a'.cd ds'::K.H c1) (S2:=.blk b4 145 [.bool false,.bool false,.bool false,.bool false,.bool false,.bool true,.bool false,.bool false,.bool false]::.row (.slice A2 s1.g.p.length c2) 2 1 s1.g.p.length (aD .i64 s1.g.p)::.blk g 133 (aH s' a')::bH a'.Ad a'.cd ds'::K.H c1) ?_ ?_ ?_
    ·show aA (.blk b4 145 [.bool false,.bool false,.bool false,.bool false,.bool false,.bool true,.bool false,.bool false,.bool false]::.row (.slice A2 s1.g.p.length c2) 2 1 s1.g.p.length (aD .i64 s1.g.p)::.blk g 133 (aH s' a')::bH a'.Ad a'.cd ds'::K.HC c1 [.obj d (.deferred (some []))]) _;exact aA.au
    ·exact aA.au
    ·refine cZ;exact⟨rfl,c1,a',ds',A2,c2,s1.g.p,hk1,⟨q1,q2,q3,q4,q5,q6,q7⟩,hdl',.inl (by rw[hx1,hx2,hgp]),rfl⟩
   ·refine aB;refine qW (Ds:=[d]) (S':=.row (.slice a'.Ag s'.g.p.length a'.cg) 2 1 s'.g.p.length (aD .i64 s'.g.p)::.blk g 133 (aH s' a')::bH a'.Ad a'.cd ds'::K.H c1) (S2:=.blk b4 145 [.bool false,.bool false,.bool false,.bool false,.bool false,.bool true,.bool false,.bool false,.bool false]::.row (.slice a'.Ag s'.g.p.length a'.cg) 2 1 s'.g.p.length (aD .i64 s'.g.p)::.blk g 133 (aH s' a')::bH a'.Ad a'.cd ds'::K.H c1) ?_ ?_ ?_
    ·show aA (.blk b4 145 [.bool false,.bool false,.bool false,.bool false,.bool false,.bool true,.bool false,.bool false,.bool false]::.row (.slice a'.Ag s'.g.p.length a'.cg) 2 1 s'.g.p.length (aD .i64 s'.g.p)::.blk g 133 (aH s' a')::bH a'.Ad a'.cd ds'::K.HC c1 [.obj d (.deferred (some []))]) _;exact aA.au
    ·exact aA.au
    ·refine cZ;exact⟨rfl,c1,a',ds',_,_,_,hk1,⟨q1,q2,q3,q4,q5,q6,q7⟩,hdl',.inl rfl,rfl⟩
