import Derived.Test.YtpmkboockihdbaaGreatP50
import Derived.Test.YtpmkboockihdbaaGreatP51
import Derived.Test.YtpmkboockihdbaaGreatP52
set_option maxHeartbeats 512000000
set_option maxRecDepth 4000
set_option linter.unusedVariables false
set_option linter.unusedSimpArgs false
namespace Go.Proofs.YtpmkboockihdbaaGreat
open Go.RowKit _root_.Go.Proofs.Tryz
abbrev gJ:=Option Addr×Nat×List Int
def GdR(K:eT)(f:List Int)(g:Nat)(a:bR)(og on:gJ)(b:Int)(s':aL)(S':List HE):Prop:=∃c1 a2 ds2 Ax cx xs,cV K.ys f K.room c1 b∧(a2.ptr=a.ptr∧a2.Ai=a.Ai∧a2.ci=a.ci∧a2.Am=a.Am∧a2.cm=a.cm)∧ds2.length=s'.deeds.length ∧
 (((a2.Ag,a2.cg,s'.g.p):gJ)=(Ax,cx,xs)∨((a2.Ag,a2.cg,s'.g.p):gJ)=og)∧(((a2.An,a2.cn,s'.next.p):gJ)=(Ax,cx,xs)∨((a2.An,a2.cn,s'.next.p):gJ)=on) ∧
 S'=.row (.slice Ax xs.length cx) 2 1 xs.length (aC .i64 xs)::.blk g 173 (aI s' a2)::bK a2.Ad a2.cd ds2::K.H c1
theorem bCo(K:eT)(c0:dU)(f:List Int)(g k:Nat)(s:aL)(a:bR)(ds:List jJ)(z b:Int)(w:World)(hown:aZ (.blk g 173 (aI s a)::bK a.Ad a.cd ds::K.H c0) w)(hN:cX s k)(hk:k≤16777215)(hh:fM s.mode=true)(hp:a.ptr=some ⟨K.g,0,none⟩)(hF:kJ K.ys f K.room)(hk0:cV K.ys f K.room c0 b)(hb:b≤300000000000000000)
  (hz : -4294967296≤z∧z≤4294967296) (hd:ds.length=s.deeds.length) (hr:bF w (aV (.blk g 173 (aI s a)::bK a.Ad a.cd ds::K.H c0)) a.Ag s.g.p.length a.cg 1 (aC .i64 s.g.p)):
  aF prog 138 [.pointer (some ⟨g,0,none⟩),.int .i64 z] (.blk g 173 (aI s a)::bK a.Ad a.cd ds::K.H c0) w
   (fun v S'=>v=.agg (lK (gV (wY K.ys) (hY K.ys) f s z).2).toArray∧WeR K f g a (a.Ag,a.cg,s.g.p) (b+20000) (gV (wY K.ys) (hY K.ys) f s z).1 S'):=by
 cases hwo:oK (wY K.ys) (hY K.ys) f s.g s.cf.noi z with
 | none=>exact bCn K c0 f g k s a ds z b w hown hN hk hh hp hF hk0 hb hz hd hr hwo
 | some l=>exact bCp K c0 f g k s a ds z b w hown hN hk hh hp hF hk0 hb hz hd hr l hwo
theorem bCj{W H:Nat}{f:List Int}(s:aL)(z:Int):(gV W H f s z).2.lost=false:=by unfold gV;split<;>rfl
theorem aW9{W H:Nat}{f:List Int}(s:aL):(oB W H f s).1.g=s.g∧(oB W H f s).1.deeds=s.deeds:=by unfold oB;dsimp only;split<;>exact⟨rfl,rfl⟩
theorem bCk{W H:Nat}{f:List Int}(s:aL)(z:Int):(gV W H f s z).1.next=s.next:=by
 unfold gV;split
 ·rfl
 ·exact aIg.layN_next 4 _
attribute [local irreducible] OJ J bO Code.wpIn wpListIn Oper.wpIn bodyPost CallsIn aF
theorem aUl(K:eT)(c0:dU)(f:List Int)(g k:Nat)(s:aL)(a:bR)(ds:List jJ)(z b:Int)(w:World)(hown:aZ (.blk g 173 (aI s a)::bK a.Ad a.cd ds::K.H c0) w)(hN:cX s k)(hk:k≤16777215)(hp:a.ptr=some ⟨K.g,0,none⟩)(hF:kJ K.ys f K.room)(hk0:cV K.ys f K.room c0 b)(hb:b≤300000000000000000)
  (hz : -4294967296≤z∧z≤4294967296) (hd:ds.length=s.deeds.length) (hr:bF w (aV (.blk g 173 (aI s a)::bK a.Ad a.cd ds::K.H c0)) a.Ag s.g.p.length a.cg 1 (aC .i64 s.g.p)) :
  aF prog 82 [.pointer (some ⟨g,0,none⟩),.int .i64 z] (.blk g 173 (aI s a)::bK a.Ad a.cd ds::K.H c0) w
   (fun v S'=>v=.agg (lK (lH (wY K.ys) (hY K.ys) f s z).2).toArray∧GdR K f g a (a.Ag,a.cg,s.g.p) (a.An,a.cn,s.next.p) (b+6000000) (lH (wY K.ys) (hY K.ys) f s z).1 S'):=by
 have i1:=gT hN.nvl;have i2:=jU hN.nvl;obtain⟨hc1,hc2,hc3,hc4,hc5,hc6,hc7⟩:=rT hN.cf;have h1:cX { s with p:=kX s.p z } k:=⟨hN.cf,hN.ln,hN.p.add hz,hN.w,hN.mode,hN.xy,hN.g,hN.b,hN.bn,hN.tr,hN.seq,hN.time,hN.len,hN.dl⟩;have hA:=fun w ho=>aWx g s a w z ho hN.p;have hLn:=fun w ho=>aWz g { s with p:=kX s.p z } a w ho h1.p;have hLk:=fun w ho=>aWe K c0 f g k { s with p:=kX s.p z } a b w ho h1 oo hp hF hk0 oo;have hWg:=fun hh w ho hr=>bCo K c0 f g k s a ds z b w ho hN hk hh hp hF hk0 oo hz hd hr;have hG:lH (wY K.ys) (hY K.ys) f s z=if s.mode=1 then (if s.cf.need≤(kX s.p z).n then oB (wY K.ys) (hY K.ys) f { s with p:=kX s.p z }else ({ s with p:=kX s.p z },lT))else if fM s.mode then ((gV (wY K.ys) (hY K.ys) f s z).1,{ (gV (wY K.ys) (hY K.ys) f s z).2 with lost:=(gV (wY K.ys) (hY K.ys) f s z).2.lost||uT (gV (wY K.ys) (hY K.ys) f s z).1.cf (gV (wY K.ys) (hY K.ys) f s z).1.w,over:=xL (gV (wY K.ys) (hY K.ys) f s z).1 })else (s,lT):=rfl;rw[hG];clear hG;refine aJ func82 rfl ntmps82 rfl hown (fun _=>?_);simp only[aG];by_cases hm:s.mode=1
 ·rw[if_pos hm];clear hWg;have iE:∀w0 W H t u a b,MS prog w0 W H (.binOp .eql t a b u) [.int .i64 s.mode,.int .i64 1] (.bool true) True:=fun _ _ _ _ _ _ _=>bM inferInstance trivial (congrArg Value.bool (by rw[hm];rfl));refine aB;rename_i b4;refine lf rfl rfl rfl (S:=[.blk g 173 (aI s a)]) (fun w hw ho=>hA w ho) ?_;rintro v S' ⟨bb,rfl,rfl⟩;have i5:=gT h1.nvl;have h1n:jS ({ s with p:=kX s.p z }:aL):=h1.nvl;generalize hs1:({ s with p:=kX s.p z }:aL)=s1 at *;have e1:(kX s.p z).n=s1.p.n:=by rw[← hs1]
  have e2:s.cf=s1.cf:=by rw[← hs1]
  have e3:s.g=s1.g∧s.next=s1.next∧s.deeds=s1.deeds:=by rw[← hs1];exact⟨rfl,rfl,rfl⟩
  rw[e1,e2];have i6:=jU h1n;obtain⟨g1,g2,g3⟩:=e3;by_cases hnd:s1.cf.need≤s1.p.n
  ·rw[if_pos hnd];have hlk:=aW9 (W:=wY K.ys) (H:=hY K.ys) (f:=f) s1;have iG1:∀w0 W H t u a b,MS prog w0 W H (.binOp .geq t a b u) [.int .i64 (s1.p.n:Int),.int .i64 s1.cf.need] (.bool true) True:=fun _ _ _ _ _ _ _=>bM inferInstance trivial (congrArg Value.bool (by simp[hnd]));have iG2:∀w0 W H t u a b,LV prog w0 W H (.binOp .geq t a b u) [.int .i64 (s1.p.n:Int),.int .i64 s1.cf.need] (.bool true) True:=fun _ _ _ _ _ _ _=>gO inferInstance trivial (congrArg Value.bool (by simp[hnd]));refine aB;refine dL [.blk g 173 (aI s1 a)] [true,true,true,false,true,true,true,true,true,false] [3,9] aA.au rfl od bD ?_;repeat' (first|refine gB rfl rfl rfl ?_|(refine fZ rfl rfl rfl ?_ ?_;(next=>first|exact trivial|omega))|refine fO ?_)
   refine gH ?_;intro _;all_goals refine cF
   refine lf rfl rfl rfl (S:=[.blk g 173 (aI s1 a)]) (fun w hw ho=>hLn w ho) ?_;rintro v S' ⟨rfl,rfl⟩;all_goals refine cF
   refine lf rfl rfl rfl (S:=.blk g 173 (aI s1 a)::K.H c0) (fun w hw ho=>hLk w ho) ?_;generalize oB (wY K.ys) (hY K.ys) f s1=lr at *;obtain⟨s2,ii⟩:=lr;obtain⟨b1,b2,b3,b5,b6,b7,b8,b9,b10⟩:=ii;dsimp only at hlk ⊢;rintro v S' ⟨rfl,c1,hk1,A2,c2,R,⟨rfl,rfl,rfl,hnx⟩|rfl,rfl⟩
   ·simp only[List.cons_append,List.nil_append];refine dD (e:=2) (size:=1) ?_;refine aB;refine eD (S':=.row (.slice none 0 0) 2 1 0 []::.blk g 173 (aI s2 a)::bK a.Ad a.cd ds::K.H c1) aA.au ?_;refine cY;exact⟨rfl,c1,a,ds,none,0,[],hk1,⟨rfl,rfl,rfl,rfl,rfl⟩,by rw[hlk.2,← g3];exact hd,.inr (by rw[hlk.1,← g1]),.inr (by rw[hnx,← g2]),rfl⟩
   ·simp only[List.cons_append,List.nil_append];refine aB;refine eD (S':=.row (.slice A2 s2.next.p.length c2) 2 1 s2.next.p.length (aC .i64 s2.next.p)::.blk g 173 (aI s2 { a with An:=A2,cn:=c2 })::bK a.Ad a.cd ds::K.H c1) aA.au ?_;refine cY;exact⟨rfl,c1,{ a with An:=A2,cn:=c2 },ds,A2,c2,s2.next.p,hk1,⟨rfl,rfl,rfl,rfl,rfl⟩,by rw[hlk.2,← g3];exact hd,.inr (by rw[hlk.1,← g1]),.inl rfl,rfl⟩
  ·rw[if_neg hnd];have iG1:∀w0 W H t u a b,MS prog w0 W H (.binOp .geq t a b u) [.int .i64 (s1.p.n:Int),.int .i64 s1.cf.need] (.bool false) True:=fun _ _ _ _ _ _ _=>bM inferInstance trivial (congrArg Value.bool (by simp[hnd]));have iG2:∀w0 W H t u a b,LV prog w0 W H (.binOp .geq t a b u) [.int .i64 (s1.p.n:Int),.int .i64 s1.cf.need] (.bool false) True:=fun _ _ _ _ _ _ _=>gO inferInstance trivial (congrArg Value.bool (by simp[hnd]));refine aB;refine dL [.blk g 173 (aI s1 a)] [true,true,true,false,true,true,true,true,true,false] [3,9] aA.au rfl od bD ?_;repeat' (first|refine gB rfl rfl rfl ?_|(refine fZ rfl rfl rfl ?_ ?_;(next=>first|exact trivial|omega))|refine fO ?_)
   refine gH ?_;intro _;all_goals refine cF
   refine lf rfl rfl rfl (S:=[.blk g 173 (aI s1 a)]) (fun w hw ho=>hLn w ho) ?_;rintro v S' ⟨rfl,rfl⟩;all_goals refine cF
   refine dD (e:=2) (size:=1) ?_;refine eD (S':=.row (.slice none 0 0) 2 1 0 []::.blk g 173 (aI s1 a)::bK a.Ad a.cd ds::K.H c0) aA.au ?_;refine cY;exact⟨rfl,c0,a,ds,none,0,[],hk0.mono oo,⟨rfl,rfl,rfl,rfl,rfl⟩,by rw[← g3];exact hd,.inr (by rw[← g1]),.inr (by rw[← g2]),rfl⟩
 ·rw[if_neg hm];clear hA hLn hLk;have iE:∀w0 W H t u a b,MS prog w0 W H (.binOp .eql t a b u) [.int .i64 s.mode,.int .i64 1] (.bool false) True:=fun _ _ _ _ _ _ _=>bM inferInstance trivial (congrArg Value.bool (by simpa using hm));have iH:=holds_cv s.mode;by_cases hh:fM s.mode=true
  ·rw[if_pos hh];rw[decide_eq_true (of_decide_eq_true hh)]at iH;obtain⟨r1,-,-,-⟩:=aIg (W:=wY K.ys) (H:=hY K.ys) (f:=f) hN hh z oo;have hlo:=bCj (W:=wY K.ys) (H:=hY K.ys) (f:=f) s z;have hnx:=bCk (W:=wY K.ys) (H:=hY K.ys) (f:=f) s z;refine aB;rename_i b4;refine lf rfl rfl rfl (S:=.blk g 173 (aI s a)::bK a.Ad a.cd ds::K.H c0) (fun w hw ho=>hWg hh w ho ⟨hr.h.go hw aD.au⟩) ?_;generalize gV (wY K.ys) (hY K.ys) f s z=wr at *;obtain⟨s2,ii⟩:=wr;obtain⟨b1,b2,b3,b5,b6,b7,b8,b9,b10⟩:=ii;dsimp only at hlo hnx r1 ⊢;subst hlo;rintro v S' ⟨rfl,c1,a2,ds2,Ax,cx,xs,hk1,⟨q1,q2,q3,q4,q5,q6,q7⟩,hd2,hpg,rfl⟩;have j1:=gT r1.nvl;have j2:=jU r1.nvl;have hwt:=r1.wt oo;have iLs:CV prog 95 [.agg (jI s2.cf s2.w []).toArray] (.bool (uT s2.cf s2.w)) True:=⟨fun _ w=>aPl s2.cf s2.w w hwt⟩;have hov:=fun w ho=>aN4 g s2 a2 w ho r1.nvl r1.marks.2.2.2.2.1;generalize uT s2.cf s2.w=wl at *;refine aB;refine lf rfl rfl rfl (S:=[.blk g 173 (aI s2 a2)]) (fun w hw ho=>hov w ho) ?_;rintro v S' ⟨rfl,rfl⟩;refine aB;refine eD (S':=.row (.slice Ax xs.length cx) 2 1 xs.length (aC .i64 xs)::.blk g 173 (aI s2 a2)::bK a2.Ad a2.cd ds2::K.H c1) aA.au ?_;refine cY;exact⟨rfl,c1,a2,ds2,Ax,cx,xs,hk1.mono oo,⟨q1,q4,q5,q6,q7⟩,hd2,hpg,.inr (by rw[q2,q3,hnx]),rfl⟩
  ·rw[if_neg hh];rw[decide_eq_false (fun h=>hh (decide_eq_true h))]at iH;refine aB;refine dD (e:=2) (size:=1) ?_;refine eD (S':=.row (.slice none 0 0) 2 1 0 []::.blk g 173 (aI s a)::bK a.Ad a.cd ds::K.H c0) aA.au ?_;refine cY;exact⟨rfl,c0,a,ds,none,0,[],hk0.mono oo,⟨rfl,rfl,rfl,rfl,rfl⟩,hd,.inr rfl,.inr rfl,rfl⟩
end Go.Proofs.YtpmkboockihdbaaGreat
namespace Go.Proofs.YtpmkboockihdbaaGreat
open Go.RowKit _root_.Go.Proofs.Tryz
@[reducible] def dP(x:gJ):HE:=.row (.slice x.1 x.2.2.length x.2.1) 2 1 x.2.2.length (aC .i64 x.2.2)
def gD(y x1 x2:gJ):Prop:=y=x1∨y=x2∨y=(none,0,[])
@[reducible] def nB(g:Nat)(s:aL)(a:bR)(ds:List jJ)(x1 x2:gJ)(T:List HE):List HE:=dP x1::dP x2::.blk g 173 (aI s a)::bK a.Ad a.cd ds::eC a.Ai a.ci s.ins::eG a.Am a.cm s.modes::T
def zL(ys f:List Int)(s:aL)(a:bR)(b:Int)(T:List HE):Prop:=(s.mode=4∧a.ptr=none∧T=[])∨∃(K:eT) (c:dU),K.ys=ys∧a.ptr=some ⟨K.g,0,none⟩∧kJ K.ys f K.room∧cV K.ys f K.room c b∧T=K.H c
structure uZ(ys f:List Int)(k:Nat)(b:Int)(s:aL)(a:bR)(ds:List jJ)(x1 x2:gJ)(T:List HE):Prop where
 ok:cX s k
 near:s.mode≠4→lP s.x s.y=true
 dl:ds.length=s.deeds.length
 g:gD (a.Ag,a.cg,s.g.p) x1 x2
 n:gD (a.An,a.cn,s.next.p) x1 x2
 ca:zL ys f s a b T
theorem gD.ro{y x1 x2:gJ}(h:gD y x1 x2){w0 w:World}{W:Nat→Prop}{H S R Q1 Q2:List HE}(hw:St w0 W H w)(hs:aD H S R)(h1:aS R (dP x1) Q1)(h2:aS R (dP x2) Q2):bF w (aV S) y.1 y.2.2.length y.2.1 1 (aC .i64 y.2.2):=by
 rcases h with rfl|rfl|rfl
 ·exact⟨Ro.row hw hs h1⟩
 ·exact⟨Ro.row hw hs h2⟩
 ·exact⟨Ro.nil _ _ _⟩
theorem aDm{gg nn x x1 x2:gJ}(hg:gg=x∨gD gg x1 x2)(hn:nn=x∨gD nn x1 x2):∃y1 y2:gJ,gD gg y1 y2∧gD nn y1 y2∧∀R:List HE,aA (dP y1::dP y2::R) (dP (none,0,[])::dP (none,0,[])::dP x::dP x1::dP x2::R):=by
 have key:∀(y:gJ),(y=x∨gD y x1 x2)→y=(none,0,[])∨y=x∨y=x1∨y=x2:=by
  rintro y (h|h|h|h)
  ·exact .inr (.inl h)
  ·exact .inr (.inr (.inl h))
  ·exact .inr (.inr (.inr h))
  ·exact .inl h
 rcases key gg hg with e1|e1|e1|e1<;>rcases key nn hn with e2|e2|e2|e2
 ·exact⟨(none,0,[]),(none,0,[]),.inl e1,.inl e2,fun R=>.cons (.here _ _) (.cons (.here _ _) (.skip (.skip (.skip (.refl _) _) _) _))⟩
 ·exact⟨(none,0,[]),x,.inl e1,.inr (.inl e2),fun R=>.cons (.here _ _) (.cons (.there _ (.here _ _)) (.skip (.skip (.skip (.refl _) _) _) _))⟩
 ·exact⟨(none,0,[]),x1,.inl e1,.inr (.inl e2),fun R=>.cons (.here _ _) (.cons (.there _ (.there _ (.here _ _))) (.skip (.skip (.skip (.refl _) _) _) _))⟩
 ·exact⟨(none,0,[]),x2,.inl e1,.inr (.inl e2),fun R=>.cons (.here _ _) (.cons (.there _ (.there _ (.there _ (.here _ _)))) (.skip (.skip (.skip (.refl _) _) _) _))⟩
 ·exact⟨x,(none,0,[]),.inl e1,.inr (.inl e2),fun R=>.cons (.there _ (.there _ (.here _ _))) (.cons (.there _ (.here _ _)) (.skip (.skip (.skip (.refl _) _) _) _))⟩
 ·exact⟨x,(none,0,[]),.inl e1,.inl e2,fun R=>.cons (.there _ (.there _ (.here _ _))) (.cons (.there _ (.here _ _)) (.skip (.skip (.skip (.refl _) _) _) _))⟩
 ·exact⟨x,x1,.inl e1,.inr (.inl e2),fun R=>.cons (.there _ (.there _ (.here _ _))) (.cons (.there _ (.there _ (.here _ _))) (.skip (.skip (.skip (.refl _) _) _) _))⟩
 ·exact⟨x,x2,.inl e1,.inr (.inl e2),fun R=>.cons (.there _ (.there _ (.here _ _))) (.cons (.there _ (.there _ (.there _ (.here _ _)))) (.skip (.skip (.skip (.refl _) _) _) _))⟩
 ·exact⟨x1,(none,0,[]),.inl e1,.inr (.inl e2),fun R=>.cons (.there _ (.there _ (.there _ (.here _ _)))) (.cons (.there _ (.here _ _)) (.skip (.skip (.skip (.refl _) _) _) _))⟩
 ·exact⟨x1,x,.inl e1,.inr (.inl e2),fun R=>.cons (.there _ (.there _ (.there _ (.here _ _)))) (.cons (.there _ (.there _ (.here _ _))) (.skip (.skip (.skip (.refl _) _) _) _))⟩
 ·exact⟨x1,(none,0,[]),.inl e1,.inl e2,fun R=>.cons (.there _ (.there _ (.there _ (.here _ _)))) (.cons (.there _ (.here _ _)) (.skip (.skip (.skip (.refl _) _) _) _))⟩
 ·exact⟨x1,x2,.inl e1,.inr (.inl e2),fun R=>.cons (.there _ (.there _ (.there _ (.here _ _)))) (.cons (.there _ (.there _ (.there _ (.here _ _)))) (.skip (.skip (.skip (.refl _) _) _) _))⟩
 ·exact⟨x2,(none,0,[]),.inl e1,.inr (.inl e2),fun R=>.cons (.there _ (.there _ (.there _ (.there _ (.here _ _))))) (.cons (.there _ (.here _ _)) (.skip (.skip (.skip (.refl _) _) _) _))⟩
 ·exact⟨x2,x,.inl e1,.inr (.inl e2),fun R=>.cons (.there _ (.there _ (.there _ (.there _ (.here _ _))))) (.cons (.there _ (.there _ (.here _ _))) (.skip (.skip (.skip (.refl _) _) _) _))⟩
 ·exact⟨x2,x1,.inl e1,.inr (.inl e2),fun R=>.cons (.there _ (.there _ (.there _ (.there _ (.here _ _))))) (.cons (.there _ (.there _ (.there _ (.here _ _)))) (.skip (.skip (.skip (.refl _) _) _) _))⟩
 ·exact⟨x2,(none,0,[]),.inl e1,.inl e2,fun R=>.cons (.there _ (.there _ (.there _ (.there _ (.here _ _))))) (.cons (.there _ (.here _ _)) (.skip (.skip (.skip (.refl _) _) _) _))⟩
theorem gD.ro3{y x x1 x2:gJ}(h:y=x∨gD y x1 x2){w0 w:World}{W:Nat→Prop}{H S R Q0 Q1 Q2:List HE}(hw:St w0 W H w)(hs:aD H S R)(h0:aS R (dP x) Q0)(h1:aS R (dP x1) Q1)(h2:aS R (dP x2) Q2):bF w (aV S) y.1 y.2.2.length y.2.1 1 (aC .i64 y.2.2):=by
 rcases h with rfl|h
 ·exact⟨Ro.row hw hs h0⟩
 ·exact h.ro hw hs h1 h2
theorem bAw(s:aL)(i:kK)(say:Bool):(jE s i say).1.next=s.next:=by
 rw[aOe];have key:(zE s i).next=s.next:=by
  unfold zE;dsimp only;repeat' split
  all_goals rfl
 split
 ·exact key
 ·exact key
theorem zL.of{ys f:List Int}{s:aL}{a:bR}{b:Int}{T:List HE}(h:zL ys f s a b T)(hm:s.mode≠4):∃(K:eT) (c:dU),K.ys=ys∧a.ptr=some ⟨K.g,0,none⟩∧kJ K.ys f K.room∧cV K.ys f K.room c b∧T=K.H c:=by
 rcases h with⟨h,-⟩|h
 ·exact absurd h hm
 ·exact h
theorem zL.mono{ys f:List Int}{s t:aL}{a:bR}{b c:Int}{T:List HE}(h:zL ys f s a b T)(hm:t.mode=s.mode)(hb:b≤c):zL ys f t a c T:=by
 rcases h with⟨h,h2⟩ | ⟨K,c0,h1,h2,h3,h4,h5⟩
 ·exact .inl ⟨by rw[hm];exact h,h2⟩
 ·exact .inr ⟨K,c0,h1,h2,h3,h4.mono hb,h5⟩
theorem aWr(s:aL)(dx dy:Int):(kU s dx dy).1.next=s.next∧(kU s dx dy).2.clear=false:=by
 unfold kU;dsimp only;split
 ·exact⟨rfl,rfl⟩
 ·repeat' split
  all_goals exact⟨rfl,rfl⟩
theorem cX.timed{s:aL}{k:Nat}(h:cX s k){t:Int}(ht:aP .u32 t):cX { s with time:=t } k:=⟨h.cf,h.ln,h.p,h.w,h.mode,h.xy,h.g,h.b,h.bn,h.tr,h.seq,ht,h.len,h.dl⟩
def TkR(ys f:List Int)(k:Nat)(b:Int)(g:Nat)(r:aL×List jH)(v:Value)(S':List HE):Prop:=∃So a2 ds2 y1 y2 T2,aEq r.2 v So∧S'=So++nB g r.1 a2 ds2 y1 y2 T2∧uZ ys f k b r.1 a2 ds2 y1 y2 T2
theorem nZ{N:Nat}{ds:List Deferred}{w0:World}{W:Nat→Prop}{σ:List (Nat×Value)}{H:List HE}{q:Act→World→Prop}(h:J N ds w0 W σ (dP (none,0,[])::H) q):J N ds w0 W σ H q:=dD (e:=2) (size:=1) h
attribute [local irreducible] OJ J bO Code.wpIn wpListIn Oper.wpIn bodyPost CallsIn aF
theorem bC0(ys f:List Int)(g k:Nat)(s:aL)(a:bR)(ds:List jJ)(x1 x2:gJ)(T:List HE)(x:jH)(b:Int)(w:World)(hown:aZ (nB g s a ds x1 x2 T) w)(hI:uZ ys f k b s a ds x1 x2 T)(hx:x.ok)(hk:k≤16777214)(hb:b≤200000000000000000):
  aF prog 21 [.pointer (some ⟨g,0,none⟩),.agg (dR x).toArray] (nB g s a ds x1 x2 T) w (fun v S'=>TkR ys f (k+1) (b+6000000) g (jW (wY ys) (hY ys) f s x) v S'):=by
 have hNear:=bBq (W:=wY ys) (H:=hY ys) (f:=f) hI.near hI.ok.mode x;have hOk:=bBr (W:=wY ys) (H:=hY ys) (f:=f) hI.ok hI.near hx oo;have hN:=hI.ok;have i1:=gT hN.nvl;have i2:=jU hN.nvl;have hd:=hI.dl;obtain⟨-,-,xt,xa,xb,-⟩:=hx;have hxa : -2147483648≤x.a∧x.a≤2147483647:=xa;have hxb : -2147483648≤x.b∧x.b≤2147483647:=xb;by_cases hm:s.mode=4
 ·have hT:jW (wY ys) (hY ys) f s x=cP s:=by unfold jW;rw[if_pos hm]
  rw[hT]at hNear hOk ⊢;refine aJ func21 rfl ntmps21 rfl hown (fun _=>?_);simp only[aG];refine aB;refine fS (S:=[.blk g 173 (aI s a)]) rfl rfl (aD.cons (.there _ (.there _ (.there _ (.here _ _)))) (aD.nil _)) rfl (fun w hw ho=>uR g k s a w ho hN oo (hI.g.ro hw (aD.cons (.there _ (.there _ (.there _ (.here _ _)))) (aD.nil _)) (by refine bV) (by refine bV))) ?_;rintro v S' ⟨So,⟨A5,c5,rfl,rfl⟩,rfl⟩;refine aB;simp only[List.cons_append,List.nil_append];exact aK (S':=.row (.slice A5 (cP s).2.length c5) 67 6 (cP s).2.length (aR dR (cP s).2)::nB g (cP s).1 a ds x1 x2 T) rfl rfl (aA.appT (S:=[_,_,_,_,_,_,_]) (H:=[_,_,_,_,_,_,_,_]) T (aA.cons (.here _ _) (aA.cons (.there _ (.there _ (.here _ _))) (aA.cons (.there _ (.there _ (.here _ _))) (aA.cons (.here _ _) (aA.cons (.there _ (.here _ _)) (aA.cons (.there _ (.here _ _)) (aA.cons (.there _ (.here _ _)) (aA.nil _))))))))) ⟨[_],a,ds,x1,x2,T,⟨A5,c5,rfl,rfl⟩,rfl,⟨hOk,hNear,hd,hI.g,hI.n,hI.ca.mono rfl oo⟩⟩
 ·obtain⟨K,c0,rfl,hp,hF,hk0,rfl⟩:=hI.ca.of hm;obtain⟨t1,t2⟩:=hN.ln.take x.kind x.seq x.time (a:=x.a) oo;have hTk:=fun w ho=>aX1 g s a w x ho hN.ln.1 oo;have hT0:jW (wY K.ys) (hY K.ys) f s x=if (s.ln.take x.kind x.seq x.time x.a).2.2.2=true then jE { (lH (wY K.ys) (hY K.ys) f { s with ln:=(s.ln.take x.kind x.seq x.time x.a).1 } (s.ln.take x.kind x.seq x.time x.a).2.2.1).1 with time:=x.time } (lH (wY K.ys) (hY K.ys) f { s with ln:=(s.ln.take x.kind x.seq x.time x.a).1 } (s.ln.take x.kind x.seq x.time x.a).2.2.1).2 true
    else if (s.ln.take x.kind x.seq x.time x.a).2.1≠6 then ({ s with ln:=(s.ln.take x.kind x.seq x.time x.a).1 },[])
    else jE { (if x.kind=1 then kU { s with ln:=(s.ln.take x.kind x.seq x.time x.a).1 } x.a x.b else if x.kind=5 then ({ s with ln:=(s.ln.take x.kind x.seq x.time x.a).1 },{ lT with start:=decide (x.a=1),stop:=decide (x.a=0) })else ({ s with ln:=(s.ln.take x.kind x.seq x.time x.a).1 },lT)).1 with time:=x.time } (if x.kind=1 then kU { s with ln:=(s.ln.take x.kind x.seq x.time x.a).1 } x.a x.b else if x.kind=5 then ({ s with ln:=(s.ln.take x.kind x.seq x.time x.a).1 },{ lT with start:=decide (x.a=1),stop:=decide (x.a=0) })else ({ s with ln:=(s.ln.take x.kind x.seq x.time x.a).1 },lT)).2 (decide (x.kind=5∨x.kind=4)):=by
   unfold jW;rw[if_neg hm]
  generalize s.ln.take x.kind x.seq x.time x.a=tk at *;obtain⟨ln2,what,z,ok⟩:=tk;dsimp only at t1 t2 hTk hT0;have h1:cX { s with ln:=ln2 } k:=⟨hN.cf,t1,hN.p,hN.w,hN.mode,hN.xy,hN.g,hN.b,hN.bn,hN.tr,hN.seq,hN.time,hN.len,hN.dl⟩;have hw1:lP s.x s.y=true:=hI.near hm;have hig:=hI.g;have hin:=hI.n;have hml:=hN.len;obtain⟨s1,hs1⟩:∃y,({ s with ln:=ln2 }:aL)=y:=⟨_,rfl⟩;rw[hs1]at hT0 h1;have e1:s1.deeds=s.deeds∧s1.g=s.g∧s1.next=s.next∧s1.ins=s.ins∧s1.modes=s.modes∧s1.mode=s.mode∧s1.x=s.x∧s1.y=s.y:=by rw[← hs1];exact⟨rfl,rfl,rfl,rfl,rfl,rfl,rfl,rfl⟩
  refine aJ func21 rfl ntmps21 rfl hown (fun _=>?_);simp only[aG];have iM4:∀w0 W H t u a b,MS prog w0 W H (.binOp .eql t a b u) [.int .i64 s.mode,.int .i64 4] (.bool false) True:=fun _ _ _ _ _ _ _=>bM inferInstance trivial (congrArg Value.bool (by simpa using hm));refine aB;rename_i b3;refine mM (X:=Unit) (fun _=>True) (fun _=>[(0,.pointer (some ⟨g,0,none⟩)),(3,.pointer (some ⟨b3,0,none⟩)),(5,.int .i64 what),(6,.int .i64 z),(7,.bool ok)])
   (fun _=>.blk b3 67 (dR x)::dP x1::dP x2::.blk g 173 (aI s1 a)::bK a.Ad a.cd ds::eC a.Ai a.ci s1.ins::eG a.Am a.cm s1.modes::K.H c0) ?_ ?_
  ·subst hs1;refine dL [.blk b3 67 (dR x)] [true,true,true,true,false,false,false,false,false,false,false,false] [4,5,6,7,8,9,10,11] aA.au rfl od bD ?_;repeat' (first|refine gB rfl rfl rfl ?_|(refine fZ rfl rfl rfl ?_ ?_;(next=>first|exact trivial|omega))|refine fO ?_)
   refine gH ?_;intro _;all_goals refine cF
   all_goals refine lf rfl rfl rfl (S:=[.blk g 173 (aI s a)]) (fun w hw ho=>hTk w ho) ?_
   all_goals rintro v S' ⟨rfl,rfl⟩
   all_goals refine cF
   all_goals exact aN () trivial trivial ⟨rfl,rfl,rfl,rfl,rfl,trivial⟩ aA.au
  ·rintro _ -;have i3:=gT h1.nvl;have i4:=jU h1.nvl;refine aCl ?_;refine mM (X:=Nat) (fun _=>True) (fun q=>[(0,.pointer (some ⟨g,0,none⟩)),(3,.pointer (some ⟨b3,0,none⟩)),(5,.int .i64 what),(6,.int .i64 z),(7,.bool ok),(8,.pointer (some ⟨q,0,none⟩))])
    (fun q=>.blk q 183 [.bool false,.bool false,.bool false,.bool false,.bool false,.bool false,.bool false,.bool false,.bool false]::.blk b3 67 (dR x)::dP x1::dP x2::.blk g 173 (aI s1 a)::bK a.Ad a.cd ds::eC a.Ai a.ci s1.ins::eG a.Am a.cm s1.modes::K.H c0) ?_ ?_
   ·refine aB;rename_i q;exact aN q trivial trivial ⟨rfl,rfl,rfl,rfl,rfl,rfl,trivial⟩ aA.au
   rintro b8 -;obtain⟨d1,d2,d3,d4,d5,d6,d7,d8⟩:=e1;have hig1:gD (a.Ag,a.cg,s1.g.p) x1 x2:=by rw[d2];exact hig
   have hin1:gD (a.An,a.cn,s1.next.p) x1 x2:=by rw[d3];exact hin
   have hd1:ds.length=s1.deeds.length:=by rw[d1];exact hd
   have hw2:lP s1.x s1.y=true:=by rw[d7,d8];exact hw1
   refine aCl ?_;refine aJk ?_;refine aAu (X:=aL×kK×bR×List jJ×gJ×dU)
    (fun q=>jW (wY K.ys) (hY K.ys) f s x=jE { q.1 with time:=x.time } q.2.1 (ok||decide (x.kind=5∨x.kind=4))∧cX q.1 (k+1)∧(q.1.ins=s1.ins∧q.1.modes=s1.modes)∧(q.2.1.clear=true→cO q.1.next∧nQ q.1.next 0)∧q.2.2.1.ptr=a.ptr∧q.2.2.2.1.length=q.1.deeds.length ∧
     (((q.2.2.1.Ag,q.2.2.1.cg,q.1.g.p):gJ)=q.2.2.2.2.1∨gD (q.2.2.1.Ag,q.2.2.1.cg,q.1.g.p) x1 x2)∧(((q.2.2.1.An,q.2.2.1.cn,q.1.next.p):gJ)=q.2.2.2.2.1∨gD (q.2.2.1.An,q.2.2.1.cn,q.1.next.p) x1 x2)∧cV K.ys f K.room q.2.2.2.2.2 (b+6000000))
    (fun _=>[(0,.pointer (some ⟨g,0,none⟩)),(3,.pointer (some ⟨b3,0,none⟩)),(7,.bool ok),(8,.pointer (some ⟨b8,0,none⟩))])
    (fun q=>.blk b8 183 (lK q.2.1)::.blk b3 67 (dR x)::dP q.2.2.2.2.1::dP x1::dP x2::.blk g 173 (aI q.1 q.2.2.1)::bK q.2.2.1.Ad q.2.2.1.cd q.2.2.2.1::eC q.2.2.1.Ai q.2.2.1.ci q.1.ins::eG q.2.2.1.Am q.2.2.1.cm q.1.modes::K.H q.2.2.2.2.2) ?_ ?_
   ·cases ok
    ·rw[if_neg od]at hT0;by_cases hwh:what=6
     ·rw[if_neg (Decidable.not_not.2 hwh)]at hT0;have iW:∀w0 W H t u a b,MS prog w0 W H (.binOp .neq t a b u) [.int .i64 what,.int .i64 6] (.bool false) True:=fun _ _ _ _ _ _ _=>bM inferInstance trivial (congrArg Value.bool (by simp[hwh]));by_cases hk1:x.kind=1
      ·rw[if_pos hk1]at hT0;have iK:∀w0 W H t u a b,MS prog w0 W H (.binOp .eql t a b u) [.int .i64 x.kind,.int .i64 1] (.bool true) True:=fun _ _ _ _ _ _ _=>bM inferInstance trivial (congrArg Value.bool (by simp[hk1]));obtain⟨m1,m2,m3⟩:=aMf h1 (dx:=x.a) (dy:=x.b) ⟨hxa,hxb⟩ oo;obtain⟨m4,m5,-⟩:=aGq s1 x.a x.b;obtain⟨m6,m7⟩:=aWr s1 x.a x.b;have hMv:=fun w ho hr=>aWs g k s1 a ds x.a x.b w ho h1 oo hd1 ⟨by show (-9223372036854775808:Int)≤_∧_≤(9223372036854775807:Int);omega,by show (-9223372036854775808:Int)≤_∧_≤(9223372036854775807:Int);omega⟩ hr;refine aB;refine lf rfl rfl rfl (S:=[.blk g 173 (aI s1 a),bK a.Ad a.cd ds]) (fun w hw ho=>hMv w ho (hig1.ro hw aD.au (by refine bV) (by refine bV))) ?_;generalize kU s1 x.a x.b=mr at *;obtain⟨s2,ii⟩:=mr;obtain⟨j1,j2,j3,j5,j6,j7,j8,j9,j10⟩:=ii;dsimp only at hT0 m1 m2 m3 m4 m5 m6 m7 ⊢;subst m7;rintro v S' ⟨rfl,a2,ds2,R,⟨p1,p2,p3,p4,p5,p6,p7⟩,hd2,⟨rfl,p8,p9,p10⟩|rfl,rfl⟩
       ·simp only[List.cons_append,List.nil_append];refine nZ ?_;rw[← m4,← m5,← p4,← p5,← p6,← p7];refine aB;exact aN (s2,⟨j1,j2,j3,false,j6,j7,j8,j9,j10⟩,a2,ds2,(none,0,[]),c0) ⟨hT0,m1,⟨rfl,rfl⟩,fun h=>(by cases h),p1,hd2,.inr (by rw[p8,p9,p10];exact hig1),.inr (by rw[p2,p3,m6];exact hin1),hk0.mono oo⟩ trivial ⟨rfl,rfl,rfl,rfl,trivial⟩ aA.au
       ·simp only[List.cons_append,List.nil_append];rw[← m4,← m5,← p4,← p5,← p6,← p7];refine aB;exact aN (s2,⟨j1,j2,j3,false,j6,j7,j8,j9,j10⟩,a2,ds2,(a2.Ag,a2.cg,s2.g.p),c0) ⟨hT0,m1,⟨rfl,rfl⟩,fun h=>(by cases h),p1,hd2,.inl rfl,.inr (by rw[p2,p3,m6];exact hin1),hk0.mono oo⟩ trivial ⟨rfl,rfl,rfl,rfl,trivial⟩ aA.au
      ·rw[if_neg hk1]at hT0;have iK:∀w0 W H t u a b,MS prog w0 W H (.binOp .eql t a b u) [.int .i64 x.kind,.int .i64 1] (.bool false) True:=fun _ _ _ _ _ _ _=>bM inferInstance trivial (congrArg Value.bool (by simpa using hk1));by_cases hk5:x.kind=5
       ·rw[if_pos hk5]at hT0;have iK5:∀w0 W H t u a b,MS prog w0 W H (.binOp .eql t a b u) [.int .i64 x.kind,.int .i64 5] (.bool true) True:=fun _ _ _ _ _ _ _=>bM inferInstance trivial (congrArg Value.bool (by simp[hk5]));have iA1:∀w0 W H t u a b,MS prog w0 W H (.binOp .eql t a b u) [.int .i32 x.a,.int .i32 1] (.bool (decide (x.a=1))) True:=fun _ _ _ _ _ _ _=>bM inferInstance trivial rfl;have iA0:∀w0 W H t u a b,MS prog w0 W H (.binOp .eql t a b u) [.int .i32 x.a,.int .i32 0] (.bool (decide (x.a=0))) True:=fun _ _ _ _ _ _ _=>bM inferInstance trivial rfl;refine nZ ?_;refine aB;exact aN (s1,⟨decide (x.a=1),decide (x.a=0),false,false,false,false,false,false,false⟩,a,ds,(none,0,[]),c0) ⟨hT0,h1.up (Nat.le_succ k),⟨rfl,rfl⟩,fun h=>(by cases h),rfl,hd1,.inr hig1,.inr hin1,hk0.mono oo⟩ trivial ⟨rfl,rfl,rfl,rfl,trivial⟩ aA.au
       ·rw[if_neg hk5]at hT0;have iK5:∀w0 W H t u a b,MS prog w0 W H (.binOp .eql t a b u) [.int .i64 x.kind,.int .i64 5] (.bool false) True:=fun _ _ _ _ _ _ _=>bM inferInstance trivial (congrArg Value.bool (by simpa using hk5));refine nZ ?_;refine aB;exact aN (s1,⟨false,false,false,false,false,false,false,false,false⟩,a,ds,(none,0,[]),c0) ⟨hT0,h1.up (Nat.le_succ k),⟨rfl,rfl⟩,fun h=>(by cases h),rfl,hd1,.inr hig1,.inr hin1,hk0.mono oo⟩ trivial ⟨rfl,rfl,rfl,rfl,trivial⟩ aA.au
     ·rw[if_pos hwh]at hT0;have iW:∀w0 W H t u a b,MS prog w0 W H (.binOp .neq t a b u) [.int .i64 what,.int .i64 6] (.bool true) True:=fun _ _ _ _ _ _ _=>bM inferInstance trivial (congrArg Value.bool (by simpa using hwh));rw[hT0]at hNear hOk ⊢;refine aB;refine dD (e:=67) (size:=6) ?_;exact aK (S':=.row (.slice none 0 0) 67 6 0 []::nB g s1 a ds x1 x2 (K.H c0)) rfl rfl aA.au ⟨[_],a,ds,x1,x2,K.H c0,⟨none,0,rfl,rfl⟩,rfl,⟨hOk,hNear,hd1,hig1,hin1,.inr ⟨K,c0,rfl,hp,hF,hk0.mono oo,rfl⟩⟩⟩
    ·rw[if_pos rfl]at hT0;have hGr:=fun w ho hr=>aUl K c0 f g k s1 a ds z b w ho h1 oo hp hF hk0 oo t2 hd1 hr;obtain⟨r1,r2,r3,r4⟩:=aL5 (W:=wY K.ys) (H:=hY K.ys) (f:=f) h1 hw2 t2 oo;obtain⟨m4,m5,-⟩:=aG0 (W:=wY K.ys) (H:=hY K.ys) (f:=f) s1 z;refine aB;refine lf rfl rfl rfl (S:=.blk g 173 (aI s1 a)::bK a.Ad a.cd ds::K.H c0) (fun w hw ho=>hGr w ho (hig1.ro hw aD.au (by refine bV) (by refine bV))) ?_;generalize lH (wY K.ys) (hY K.ys) f s1 z=gr at *;obtain⟨s2,ii⟩:=gr;obtain⟨j1,j2,j3,j5,j6,j7,j8,j9,j10⟩:=ii;dsimp only at hT0 r1 r2 r3 r4 m4 m5 ⊢;rintro v S' ⟨rfl,c1,a2,ds2,Ax,cx,xs,hk1,⟨p1,p4,p5,p6,p7⟩,hd2,hpg,hpn,rfl⟩;rw[← m4,← m5,← p4,← p5,← p6,← p7];refine aB;exact aN (s2,⟨j1,j2,j3,j5,j6,j7,j8,j9,j10⟩,a2,ds2,(Ax,cx,xs),c1) ⟨hT0,r1,⟨rfl,rfl⟩,r4,p1,hd2,hpg.imp id (fun h=>by rw[h];exact hig1),hpn.imp id (fun h=>by rw[h];exact hin1),hk1⟩ trivial ⟨rfl,rfl,rfl,rfl,trivial⟩ aA.au
   ·rintro⟨s2,i2,a2,ds2,x3,c1⟩ ⟨hT,r1,⟨m4,m5⟩,r4,p1,hd2,hgg,hnn,hk1⟩;dsimp only at hT r1 m4 m5 r4 p1 hd2 hgg hnn hk1 ⊢;rw[hT]at hNear hOk ⊢;have r1t:=r1.timed xt;have i5:=gT r1.nvl;have i6:=jU r1.nvl;have hSt:=fun say w ho hr hx=>bAx g (k+1) { s2 with time:=x.time } a2 ds2 i2 say w ho r1t oo (by show s2.modes.length+1≤k+1;rw[m5,d5];omega) r4 hd2 hr hx;have hnx:=fun say=>bAw { s2 with time:=x.time } i2 say;obtain⟨b1,b2,b4,b5,b6,b7,b9,b10,b11⟩:=i2;cases ok
    ·by_cases hk5:x.kind=5
     ·have hsay:(false||decide (x.kind=5∨x.kind=4))=true:=by simp[hk5]
      have iK5:∀w0 W H t u a b,MS prog w0 W H (.binOp .eql t a b u) [.int .i64 x.kind,.int .i64 5] (.bool true) True:=fun _ _ _ _ _ _ _=>bM inferInstance trivial (congrArg Value.bool (by simp[hk5]));rw[hsay]at hNear hOk ⊢;have hSf:=hSt true;have hnf:=hnx true;clear hSt hnx;generalize jE { s2 with time:=x.time } ⟨b1,b2,b4,b5,b6,b7,b9,b10,b11⟩ true=sr at *;obtain⟨s4,out⟩:=sr;dsimp only at hnf hNear hOk hSf ⊢;refine aB;refine lf rfl rfl rfl (S:=[.blk g 173 (aI { s2 with time:=x.time } a2),bK a2.Ad a2.cd ds2,eC a2.Ai a2.ci s2.ins,eG a2.Am a2.cm s2.modes]) (fun w hw ho=>hSf w ho (gD.ro3 (y:=(a2.Ag,a2.cg,s2.g.p)) hgg hw aD.au (by refine bV) (by refine bV) (by refine bV)) (gD.ro3 (y:=(a2.An,a2.cn,s2.next.p)) hnn hw aD.au (by refine bV) (by refine bV) (by refine bV))) ?_;rintro v S' ⟨So,S2,⟨A5,c5,rfl,rfl⟩,rfl,a3,ds3,⟨q1,q2,q3⟩,hd3,hgr,rfl⟩;simp only[List.cons_append,List.nil_append];refine aB;have hG:((a3.Ag,a3.cg,s4.g.p):gJ)=x3∨gD (a3.Ag,a3.cg,s4.g.p) x1 x2:=by
       rcases hgr with⟨u1,u2,u3⟩ | ⟨u1,u2,u3⟩ | ⟨u1,u2,u3⟩
       ·rw[u1,u2,u3];exact hgg
       ·rw[u1,u2,u3];exact .inr (.inr (.inr rfl))
       ·rw[u1,u2,u3];exact hnn
      have hNn:((a3.An,a3.cn,s4.next.p):gJ)=x3∨gD (a3.An,a3.cn,s4.next.p) x1 x2:=by rw[q2,q3,hnf];exact hnn
      obtain⟨y1,y2,hy1,hy2,hsub⟩:=aDm hG hNn;refine nZ ?_;refine nZ ?_;refine kF (H':=dP (none,0,[])::dP (none,0,[])::dP x3::dP x1::dP x2::.row (.slice A5 out.length c5) 67 6 out.length (aR dR out)::.blk g 173 (aI s4 a3)::bK a3.Ad a3.cd ds3::eC a3.Ai a3.ci s4.ins::eG a3.Am a3.cm s4.modes::K.H c1) aA.au ?_;refine kF (hsub _) ?_;exact aK (S':=.row (.slice A5 out.length c5) 67 6 out.length (aR dR out)::nB g s4 a3 ds3 y1 y2 (K.H c1)) rfl rfl aA.au ⟨[_],a3,ds3,y1,y2,K.H c1,⟨A5,c5,rfl,rfl⟩,rfl,⟨hOk,hNear,hd3,hy1,hy2,.inr ⟨K,c1,rfl,by rw[q1,p1];exact hp,hF,hk1,rfl⟩⟩⟩
     ·have iK5:∀w0 W H t u a b,MS prog w0 W H (.binOp .eql t a b u) [.int .i64 x.kind,.int .i64 5] (.bool false) True:=fun _ _ _ _ _ _ _=>bM inferInstance trivial (congrArg Value.bool (by simpa using hk5));by_cases hk4:x.kind=4
      ·have hsay:(false||decide (x.kind=5∨x.kind=4))=true:=by simp[hk4]
       have iK4:∀w0 W H t u a b,MS prog w0 W H (.binOp .eql t a b u) [.int .i64 x.kind,.int .i64 4] (.bool true) True:=fun _ _ _ _ _ _ _=>bM inferInstance trivial (congrArg Value.bool (by simp[hk4]));rw[hsay]at hNear hOk ⊢;have hSf:=hSt true;have hnf:=hnx true;clear hSt hnx;generalize jE { s2 with time:=x.time } ⟨b1,b2,b4,b5,b6,b7,b9,b10,b11⟩ true=sr at *;obtain⟨s4,out⟩:=sr;dsimp only at hnf hNear hOk hSf ⊢;refine aB;refine lf rfl rfl rfl (S:=[.blk g 173 (aI { s2 with time:=x.time } a2),bK a2.Ad a2.cd ds2,eC a2.Ai a2.ci s2.ins,eG a2.Am a2.cm s2.modes]) (fun w hw ho=>hSf w ho (gD.ro3 (y:=(a2.Ag,a2.cg,s2.g.p)) hgg hw aD.au (by refine bV) (by refine bV) (by refine bV)) (gD.ro3 (y:=(a2.An,a2.cn,s2.next.p)) hnn hw aD.au (by refine bV) (by refine bV) (by refine bV))) ?_;rintro v S' ⟨So,S2,⟨A5,c5,rfl,rfl⟩,rfl,a3,ds3,⟨q1,q2,q3⟩,hd3,hgr,rfl⟩;simp only[List.cons_append,List.nil_append];refine aB;have hG:((a3.Ag,a3.cg,s4.g.p):gJ)=x3∨gD (a3.Ag,a3.cg,s4.g.p) x1 x2:=by
        rcases hgr with⟨u1,u2,u3⟩ | ⟨u1,u2,u3⟩ | ⟨u1,u2,u3⟩
        ·rw[u1,u2,u3];exact hgg
        ·rw[u1,u2,u3];exact .inr (.inr (.inr rfl))
        ·rw[u1,u2,u3];exact hnn
       have hNn:((a3.An,a3.cn,s4.next.p):gJ)=x3∨gD (a3.An,a3.cn,s4.next.p) x1 x2:=by rw[q2,q3,hnf];exact hnn
       obtain⟨y1,y2,hy1,hy2,hsub⟩:=aDm hG hNn;refine nZ ?_;refine nZ ?_;refine kF (H':=dP (none,0,[])::dP (none,0,[])::dP x3::dP x1::dP x2::.row (.slice A5 out.length c5) 67 6 out.length (aR dR out)::.blk g 173 (aI s4 a3)::bK a3.Ad a3.cd ds3::eC a3.Ai a3.ci s4.ins::eG a3.Am a3.cm s4.modes::K.H c1) aA.au ?_;refine kF (hsub _) ?_;exact aK (S':=.row (.slice A5 out.length c5) 67 6 out.length (aR dR out)::nB g s4 a3 ds3 y1 y2 (K.H c1)) rfl rfl aA.au ⟨[_],a3,ds3,y1,y2,K.H c1,⟨A5,c5,rfl,rfl⟩,rfl,⟨hOk,hNear,hd3,hy1,hy2,.inr ⟨K,c1,rfl,by rw[q1,p1];exact hp,hF,hk1,rfl⟩⟩⟩
      ·have hsay:(false||decide (x.kind=5∨x.kind=4))=false:=by simp[hk4,hk5]
       have iK4:∀w0 W H t u a b,MS prog w0 W H (.binOp .eql t a b u) [.int .i64 x.kind,.int .i64 4] (.bool false) True:=fun _ _ _ _ _ _ _=>bM inferInstance trivial (congrArg Value.bool (by simpa using hk4));rw[hsay]at hNear hOk ⊢;have hSf:=hSt false;have hnf:=hnx false;clear hSt hnx;generalize jE { s2 with time:=x.time } ⟨b1,b2,b4,b5,b6,b7,b9,b10,b11⟩ false=sr at *;obtain⟨s4,out⟩:=sr;dsimp only at hnf hNear hOk hSf ⊢;refine aB;refine lf rfl rfl rfl (S:=[.blk g 173 (aI { s2 with time:=x.time } a2),bK a2.Ad a2.cd ds2,eC a2.Ai a2.ci s2.ins,eG a2.Am a2.cm s2.modes]) (fun w hw ho=>hSf w ho (gD.ro3 (y:=(a2.Ag,a2.cg,s2.g.p)) hgg hw aD.au (by refine bV) (by refine bV) (by refine bV)) (gD.ro3 (y:=(a2.An,a2.cn,s2.next.p)) hnn hw aD.au (by refine bV) (by refine bV) (by refine bV))) ?_;rintro v S' ⟨So,S2,⟨A5,c5,rfl,rfl⟩,rfl,a3,ds3,⟨q1,q2,q3⟩,hd3,hgr,rfl⟩;simp only[List.cons_append,List.nil_append];refine aB;have hG:((a3.Ag,a3.cg,s4.g.p):gJ)=x3∨gD (a3.Ag,a3.cg,s4.g.p) x1 x2:=by
        rcases hgr with⟨u1,u2,u3⟩ | ⟨u1,u2,u3⟩ | ⟨u1,u2,u3⟩
        ·rw[u1,u2,u3];exact hgg
        ·rw[u1,u2,u3];exact .inr (.inr (.inr rfl))
        ·rw[u1,u2,u3];exact hnn
       have hNn:((a3.An,a3.cn,s4.next.p):gJ)=x3∨gD (a3.An,a3.cn,s4.next.p) x1 x2:=by rw[q2,q3,hnf];exact hnn
       obtain⟨y1,y2,hy1,hy2,hsub⟩:=aDm hG hNn;refine nZ ?_;refine nZ ?_;refine kF (H':=dP (none,0,[])::dP (none,0,[])::dP x3::dP x1::dP x2::.row (.slice A5 out.length c5) 67 6 out.length (aR dR out)::.blk g 173 (aI s4 a3)::bK a3.Ad a3.cd ds3::eC a3.Ai a3.ci s4.ins::eG a3.Am a3.cm s4.modes::K.H c1) aA.au ?_;refine kF (hsub _) ?_;exact aK (S':=.row (.slice A5 out.length c5) 67 6 out.length (aR dR out)::nB g s4 a3 ds3 y1 y2 (K.H c1)) rfl rfl aA.au ⟨[_],a3,ds3,y1,y2,K.H c1,⟨A5,c5,rfl,rfl⟩,rfl,⟨hOk,hNear,hd3,hy1,hy2,.inr ⟨K,c1,rfl,by rw[q1,p1];exact hp,hF,hk1,rfl⟩⟩⟩
    ·have hsay:(true||decide (x.kind=5∨x.kind=4))=true:=aE;rw[hsay]at hNear hOk ⊢;have hSf:=hSt true;have hnf:=hnx true;clear hSt hnx;generalize jE { s2 with time:=x.time } ⟨b1,b2,b4,b5,b6,b7,b9,b10,b11⟩ true=sr at *;obtain⟨s4,out⟩:=sr;dsimp only at hnf hNear hOk hSf ⊢;refine aB;refine lf rfl rfl rfl (S:=[.blk g 173 (aI { s2 with time:=x.time } a2),bK a2.Ad a2.cd ds2,eC a2.Ai a2.ci s2.ins,eG a2.Am a2.cm s2.modes]) (fun w hw ho=>hSf w ho (gD.ro3 (y:=(a2.Ag,a2.cg,s2.g.p)) hgg hw aD.au (by refine bV) (by refine bV) (by refine bV)) (gD.ro3 (y:=(a2.An,a2.cn,s2.next.p)) hnn hw aD.au (by refine bV) (by refine bV) (by refine bV))) ?_;rintro v S' ⟨So,S2,⟨A5,c5,rfl,rfl⟩,rfl,a3,ds3,⟨q1,q2,q3⟩,hd3,hgr,rfl⟩;simp only[List.cons_append,List.nil_append];refine aB;have hG:((a3.Ag,a3.cg,s4.g.p):gJ)=x3∨gD (a3.Ag,a3.cg,s4.g.p) x1 x2:=by
      rcases hgr with⟨u1,u2,u3⟩ | ⟨u1,u2,u3⟩ | ⟨u1,u2,u3⟩
      ·rw[u1,u2,u3];exact hgg
      ·rw[u1,u2,u3];exact .inr (.inr (.inr rfl))
      ·rw[u1,u2,u3];exact hnn
     have hNn:((a3.An,a3.cn,s4.next.p):gJ)=x3∨gD (a3.An,a3.cn,s4.next.p) x1 x2:=by rw[q2,q3,hnf];exact hnn
     obtain⟨y1,y2,hy1,hy2,hsub⟩:=aDm hG hNn;refine nZ ?_;refine nZ ?_;refine kF (H':=dP (none,0,[])::dP (none,0,[])::dP x3::dP x1::dP x2::.row (.slice A5 out.length c5) 67 6 out.length (aR dR out)::.blk g 173 (aI s4 a3)::bK a3.Ad a3.cd ds3::eC a3.Ai a3.ci s4.ins::eG a3.Am a3.cm s4.modes::K.H c1) aA.au ?_;refine kF (hsub _) ?_;exact aK (S':=.row (.slice A5 out.length c5) 67 6 out.length (aR dR out)::nB g s4 a3 ds3 y1 y2 (K.H c1)) rfl rfl aA.au ⟨[_],a3,ds3,y1,y2,K.H c1,⟨A5,c5,rfl,rfl⟩,rfl,⟨hOk,hNear,hd3,hy1,hy2,.inr ⟨K,c1,rfl,by rw[q1,p1];exact hp,hF,hk1,rfl⟩⟩⟩
end Go.Proofs.YtpmkboockihdbaaGreat
namespace Go.Proofs.YtpmkboockihdbaaGreat
open Go.RowKit _root_.Go.Proofs.Tryz
@[reducible] def ln0:Ln:=⟨0,0,0,0,false,0,0,0,0,false,0,false,0,0,0,0,0,0,0,0⟩
@[reducible] def tl0:List Value:=[.bool false,.int .i64 0,.int .i64 0,.int .i64 0,.int .i64 0,.int .i64 0,.int .i64 0,.int .i64 0,.int .i64 0,.int .i64 0,.slice none 0 0,.int .i64 0,.int .i64 0,.int .i64 0,.int .i64 0,.int .i64 0,.slice none 0 0,.int .i64 0,.int .i64 0,.int .i64 0,.bool false,.bool false,.int .u16 0,.int .u32 0,.slice none 0 0,.slice none 0 0,.slice none 0 0]
def aCs:dJ:=⟨0,0,0,0,0,0,0,0,0,0,⟨0,0,0⟩,0,0,0,0,0,0,0,0,0,0⟩
def zN:List Value:=qP aCs++(.pointer none::(sC ln0++(zJ++(zW0++tl0))))
def zNv:Value:=.agg zN.toArray
set_option maxRecDepth 100000 in
instance (priority:=3000):bH prog 173 308 2496 zNv:=⟨Tryz.t173,by kernel_rfl,by kernel_rfl,rfl,rfl⟩
instance:ZC zNv zN:=⟨rfl⟩
def NnR(ys:List Int)(cf:dJ)(x y:Int)(v:Value)(S':List HE):Prop :=
 (oR cf≠0∧v=.tuple #[.pointer none,.int .i64 (oR cf)]∧S'=[]) ∨
 (oR cf=0∧∃(g:Nat) (s0:aL) (a:bR) (T:List HE),v=.tuple #[.pointer (some ⟨g,0,none⟩),.int .i64 0]∧S'=nB g s0 a [] (none,0,[]) (none,0,[]) T∧(∃ptr,a=⟨ptr,none,0,none,0,none,0,none,0,none,0⟩ ∧
  ((s0 = kV cf x y ∧ pI ys 0 ∧ lP x y = true ∧ ∃ K : eT, K.ys = ys ∧ K.room = 8 ∧ ptr = some ⟨K.g, 0, none⟩ ∧ T = K.H (rD 8)) ∨
   (s0 = { kV cf x y with mode := 4 } ∧ ptr = none ∧ T = [] ∧ ((∃ code, code ≠ 0 ∧ pI ys code) ∨ (pI ys 0 ∧ lP x y = false))))))
theorem aGd{N:Nat}{ds:List Deferred}{w0:World}{W:Nat→Prop}{σ:List (Nat×Value)}{H:List HE}{q:Act→World→Prop}(h:J N ds w0 W σ (bK none 0 []::H) q):J N ds w0 W σ H q:=dD (e:=81) (size:=16) h
theorem aGe{N:Nat}{ds:List Deferred}{w0:World}{W:Nat→Prop}{σ:List (Nat×Value)}{H:List HE}{q:Act→World→Prop}(h:J N ds w0 W σ (eC none 0 []::H) q):J N ds w0 W σ H q:=dD (e:=183) (size:=9) h
theorem aGf{N:Nat}{ds:List Deferred}{w0:World}{W:Nat→Prop}{σ:List (Nat×Value)}{H:List HE}{q:Act→World→Prop}(h:J N ds w0 W σ (eG none 0 []::H) q):J N ds w0 W σ H q:=dD (e:=3) (size:=1) h
theorem bAm{c:dJ}(h:nU c):xP c.age c.jump c.throw c.rmost=true:=by unfold nU at h;unfold xP;simp;omega
@[reducible] def yW(ptr:Option Addr):bR:=⟨ptr,none,0,none,0,none,0,none,0,none,0⟩
attribute [local irreducible] OJ J bO Code.wpIn wpListIn Oper.wpIn bodyPost CallsIn aF
instance newL_cv(c:dJ):CV prog 77 [.agg (aHy c).toArray] (.tuple #[.agg (uJ (Ln.new c.age c.jump c.throw c.rmost)).toArray,.int .i64 0]) (nU c):=⟨fun h w=>aTj (aX8 c.age c.jump c.throw c.rmost w (bAm h))⟩
theorem aGv(A:Option Addr)(c:Nat)(ys:List Int)(cf:dJ)(x y:Int)(w:World)(hr:bF w (aV []) A ys.length c 1 (aC .u8 ys))(hu:dV ys)(hm:ys.length<100000000):
  aF prog 20 [.slice A ys.length c,.agg (qP cf).toArray,.agg #[.int .i64 x,.int .i64 y]] [] w (NnR ys cf x y):=by
 have iC:=navcheck_cv cf;refine aJ func20 rfl ntmps20 rfl ⟨aE,.nil⟩ (fun n=>?_);simp only[aG];by_cases hc:oR cf=0
 ·rw[hc]at iC;obtain⟨hc1,hc2,hc3,hc4,hc5,hc6,hc7⟩:=rT hc;have iL1:CV prog 77 [.agg (aHy cf).toArray] (.tuple #[.agg (uJ (Ln.new cf.age cf.jump cf.throw cf.rmost)).toArray,.int .i64 0]) True:=⟨fun _ w=>(newL_cv cf).h hc1 w⟩;have iW1:CV prog 78 [.agg (aBg cf).toArray] (.tuple #[.agg (jI cf kH []).toArray,.int .i64 0]) True:=⟨fun _ w=>aPm cf w hc2⟩;have iLd:xZ [(0,23),(23,1),(24,20),(44,197),(241,40),(281,2),(283,2),(285,1),(286,6),(292,6),(298,2),(300,1),(301,1),(302,1),(303,1),(304,1),(305,1),(306,1),(307,1)] zN [(0,.agg (qP cf).toArray),(6,.agg #[.int .i64 x,.int .i64 y]),(3,.agg (prE (eY cf.gap)).toArray)] (jN cf++(.pointer none::(sC ln0++eZ (eY cf.gap) (jI aCs kH (wE (kV cf x y) (yW none)))))):=⟨by kernel_rfl⟩;have iP:fT (aR cD (eY cf.gap).l) 192:=⟨by rw[lF,(vX cf.gap).len]⟩;have iWn:fT (aC .i64 kH.l) 32:=⟨by rw[gN];exact(aEf 0).len⟩;refine aB;rename_i b4 b5;refine kC (0::1::2::3::4::5::6::7::[]) ?_;intro _;refine jY;rename_i b9;refine lf rfl rfl rfl (S:=[]) (fun w hw ho=>aMo A c ys 8 w ⟨hr.h.go hw (aD.nil _)⟩ hu hm od) ?_;have iE0:∀w0 W H t u a b,MS prog w0 W H (.binOp .neq t a b u) [.int .i64 0,.int .i64 0] (.bool false) True:=fun _ _ _ _ _ _ _=>bM inferInstance trivial rfl;rintro v S' (⟨code,hne,rfl,rfl,⟨h,-⟩ | ⟨-,h⟩⟩ | ⟨-,h,K,hys,hrm,rfl,rfl⟩)
  ·exfalso;omega
  ·have iE:∀w0 W H t u a b,MS prog w0 W H (.binOp .neq t a b u) [.int .i64 code,.int .i64 0] (.bool true) True:=fun _ _ _ _ _ _ _=>bM inferInstance trivial (congrArg Value.bool (by simpa using hne));refine aB;refine aGf ?_;refine aGe ?_;refine aGd ?_;refine nZ ?_;refine nZ ?_;exact cM (S':=dP (none,0,[])::dP (none,0,[])::.blk b9 173 (aI { kV cf x y with mode:=4 } (yW none))::bK none 0 []::eC none 0 []::eG none 0 []::[]) rfl rfl rfl (aA.cons (.here _ _) (aA.cons (.here _ _) (aA.cons (.there _ (.there _ (.there _ (.here _ _)))) (aA.cons (.here _ _) (aA.cons (.here _ _) (aA.cons (.here _ _) (aA.nil _))))))) (.inr ⟨hc,b9,{ kV cf x y with mode:=4 },yW none,[],rfl,rfl,none,rfl,.inr ⟨rfl,rfl,rfl,.inl ⟨code,hne,h⟩⟩⟩)
  ·have hrm:K.room=8:=oo;rw[hrm];have iWi:=within_cv x y;cases hw36:lP x y
   ·rw[hw36]at iWi;refine aB;refine aGf ?_;refine aGe ?_;refine aGd ?_;refine nZ ?_;refine nZ ?_;exact cM (S':=dP (none,0,[])::dP (none,0,[])::.blk b9 173 (aI { kV cf x y with mode:=4 } (yW none))::bK none 0 []::eC none 0 []::eG none 0 []::[]) rfl rfl rfl (aA.cons (.here _ _) (aA.cons (.here _ _) (aA.cons (.there _ (.there _ (.there _ (.there _ (.there _ (.there _ (.there _ (.here _ _)))))))) (aA.cons (.here _ _) (aA.cons (.here _ _) (aA.cons (.here _ _) (aA.nil _))))))) (.inr ⟨hc,b9,{ kV cf x y with mode:=4 },yW none,[],rfl,rfl,none,rfl,.inr ⟨rfl,rfl,rfl,.inr ⟨h,hw36⟩⟩⟩)
   ·rw[hw36]at iWi;refine aB;refine aGf ?_;refine aGe ?_;refine aGd ?_;refine nZ ?_;refine nZ ?_;exact cM (S':=dP (none,0,[])::dP (none,0,[])::.blk b9 173 (aI (kV cf x y) (yW (some ⟨K.g,0,none⟩)))::bK none 0 []::eC none 0 []::eG none 0 []::K.H (rD 8)) rfl rfl rfl (aA.cons (.here _ _) (aA.cons (.here _ _) (aA.cons (.there _ (.there _ (.there _ (.there _ (.there _ (.there _ (.there _ (.here _ _)))))))) (aA.cons (.here _ _) (aA.cons (.here _ _) (aA.cons (.here _ _) (aA.cons (.here _ _) (aA.cons (.here _ _) (aA.cons (.here _ _) (aA.cons (.here _ _) (aA.nil _))))))))))) (.inr ⟨hc,b9,kV cf x y,yW (some ⟨K.g,0,none⟩),_,rfl,rfl,_,rfl,.inl ⟨rfl,h,hw36,K,hys,hrm,rfl,rfl⟩⟩)
 ·have iN:∀w0 W H t u a b,MS prog w0 W H (.binOp .neq t a b u) [.int .i64 (oR cf),.int .i64 0] (.bool true) True:=fun _ _ _ _ _ _ _=>bM inferInstance trivial (congrArg Value.bool (by simpa using hc));refine aB;exact cM rfl rfl rfl (.nil _) (.inl ⟨hc,rfl,rfl⟩)
theorem aMk{c:dJ}{x y:Int}(hc:oR c=0)(hxy:aP .i64 x∧aP .i64 y):cX { kV c x y with mode:=4 } 0:=by have h0:=aMl (x:=0) (y:=0) hc od;exact⟨h0.cf,h0.ln,h0.p,h0.w,⟨by show (0:Int)≤4;decide,by show (4:Int)≤4;decide⟩,hxy,fun e=>absurd e (by show ¬fM 4=true;decide),h0.b,h0.bn,h0.tr,h0.seq,h0.time,h0.len,h0.dl⟩
theorem aX7{ys f:List Int}{cf:dJ}{x y:Int}{s0:aL}{a:bR}{T:List HE}{ptr:Option Addr}(hc:oR cf=0)(hxy:aP .i64 x∧aP .i64 y)(hF:kJ ys f 8)(ha:a=⟨ptr,none,0,none,0,none,0,none,0,none,0⟩)
  (h : (s0 = kV cf x y ∧ pI ys 0 ∧ lP x y = true ∧ ∃ K : eT, K.ys = ys ∧ K.room = 8 ∧ ptr = some ⟨K.g, 0, none⟩ ∧ T = K.H (rD 8)) ∨
   (s0 = { kV cf x y with mode := 4 } ∧ ptr = none ∧ T = [] ∧ ((∃ code, code ≠ 0 ∧ pI ys code) ∨ (pI ys 0 ∧ lP x y = false)))) : uZ ys f 0 0 s0 a [] (none, 0, []) (none, 0, []) T := by
 subst ha;rcases h with⟨rfl,-,hw,K,hy,hr,rfl,rfl⟩ | ⟨rfl,rfl,rfl,-⟩
 ·exact⟨aMl hc hw,fun _=>hw,rfl,.inr (.inr rfl),.inr (.inr rfl),.inr ⟨K,rD 8,hy,rfl,by rw[hy,hr];exact hF,by rw[hr];exact aMn od,rfl⟩⟩
 ·exact⟨aMk hc hxy,fun h=>absurd rfl h,rfl,.inr (.inr rfl),.inr (.inr rfl),.inl ⟨rfl,rfl,rfl⟩⟩
theorem aRj(W H cell:Nat)(Af:Option Addr)(cf:Nat)(f:List Int)(ox oy:Int)(w:World)(hr:bF w (aV []) Af f.length cf 1 (aC .i16 f))(hW:2≤W∧W≤256∧2≤H∧H≤256∧1≤cell∧cell≤1000)(hz:f.length=W*H)(hi:dK f)(hox:aP .i32 ox)(hoy:aP .i32 oy):
  aF prog 18 [.agg #[.int .i64 W,.int .i64 H,.slice Af f.length cf,.int .i64 cell,.int .i32 ox,.int .i32 oy]] [] w (fun v S'=>∃A c,v=.slice A (fR W H cell ox oy f).length c∧S'=[.row (.slice A (fR W H cell ox oy f).length c) 5 1 (fR W H cell ox oy f).length (aC .u8 (fR W H cell ox oy f))]):=by
 refine aJ func18 rfl ntmps18 rfl ⟨aE,.nil⟩ (fun n=>?_);simp only[aG];refine aB;refine lf rfl rfl rfl (S:=[]) (fun w hw ho=>aK7 W H cell Af cf f ox oy w ⟨hr.h.go hw (aD.nil _)⟩ hW hz hi hox hoy) ?_;rintro v S' ⟨Ab,cb,rfl,rfl⟩;generalize fR W H cell ox oy f=bb at *;refine aB;exact aK rfl rfl aA.au ⟨_,_,rfl,rfl⟩
