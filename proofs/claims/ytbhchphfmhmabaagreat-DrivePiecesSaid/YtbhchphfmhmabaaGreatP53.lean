import Derived.Test.YtbhchphfmhmabaaGreatP50
import Derived.Test.YtbhchphfmhmabaaGreatP51
import Derived.Test.YtbhchphfmhmabaaGreatP52
set_option maxHeartbeats 512000000
set_option maxRecDepth 4000
set_option linter.unusedVariables false
set_option linter.unusedSimpArgs false
namespace Go.Proofs.YtbhchphfmhmabaaGreat
open Go.RowKit _root_.Go.Proofs.Tryz
abbrev gX:=Option Addr×Nat×List Int
def GdR(K:eH)(f:List Int)(g:Nat)(a:bQ)(og on:gX)(b:Int)(s':aK)(S':List HE):Prop:=∃c1 a2 ds2 Ax cx xs,cO K.ys f K.room c1 b∧(a2.ptr=a.ptr∧a2.Ai=a.Ai∧a2.ci=a.ci∧a2.Am=a.Am∧a2.cm=a.cm)∧ds2.length=s'.deeds.length ∧
 (((a2.Ag,a2.cg,s'.g.p):gX)=(Ax,cx,xs)∨((a2.Ag,a2.cg,s'.g.p):gX)=og)∧(((a2.An,a2.cn,s'.next.p):gX)=(Ax,cx,xs)∨((a2.An,a2.cn,s'.next.p):gX)=on) ∧
 S'=.row (.slice Ax xs.length cx) 2 1 xs.length (aD .i64 xs)::.blk g 133 (aH s' a2)::bH a2.Ad a2.cd ds2::K.H c1
theorem bCg(K:eH)(c0:dK)(f:List Int)(g k:Nat)(s:aK)(a:bQ)(ds:List jT)(z b:Int)(w:World)(hown:aZ (.blk g 133 (aH s a)::bH a.Ad a.cd ds::K.H c0) w)(hN:cS s k)(hk:k≤16777215)(hh:fG s.mode=true)(hp:a.ptr=some ⟨K.g,0,none⟩)(hF:jS K.ys f K.room)(hk0:cO K.ys f K.room c0 b)(hb:b≤300000000000000000)
  (hz : -4294967296≤z∧z≤4294967296) (hd:ds.length=s.deeds.length) (hr:bP w (bB (.blk g 133 (aH s a)::bH a.Ad a.cd ds::K.H c0)) a.Ag s.g.p.length a.cg 1 (aD .i64 s.g.p)):
  aF prog 113 [.pointer (some ⟨g,0,none⟩),.int .i64 z] (.blk g 133 (aH s a)::bH a.Ad a.cd ds::K.H c0) w
   (fun v S'=>v=.agg (lR (gE (wY K.ys) (hY K.ys) f s z).2).toArray∧WeR K f g a (a.Ag,a.cg,s.g.p) (b+20000) (gE (wY K.ys) (hY K.ys) f s z).1 S'):=by
 cases hwo:rH (wY K.ys) (hY K.ys) f s.g s.cf.noi z with
 | none=>exact bCf K c0 f g k s a ds z b w hown hN hk hh hp hF hk0 hb hz hd hr hwo
 | some l=>exact bCh K c0 f g k s a ds z b w hown hN hk hh hp hF hk0 hb hz hd hr l hwo
theorem bCb{W H:Nat}{f:List Int}(s:aK)(z:Int):(gE W H f s z).2.lost=false:=by unfold gE;split<;>rfl
theorem aVp{W H:Nat}{f:List Int}(s:aK):(mV W H f s).1.g=s.g∧(mV W H f s).1.deeds=s.deeds:=by unfold mV;dsimp only;split<;>exact⟨rfl,rfl⟩
theorem bCc{W H:Nat}{f:List Int}(s:aK)(z:Int):(gE W H f s z).1.next=s.next:=by
 unfold gE;split
 ·rfl
 ·exact aHs.layN_next 4 _
attribute [local irreducible] OJ J bM Code.wpIn wpListIn Oper.wpIn bodyPost CallsIn aF
theorem aU1(K:eH)(c0:dK)(f:List Int)(g k:Nat)(s:aK)(a:bQ)(ds:List jT)(z b:Int)(w:World)(hown:aZ (.blk g 133 (aH s a)::bH a.Ad a.cd ds::K.H c0) w)(hN:cS s k)(hk:k≤16777215)(hp:a.ptr=some ⟨K.g,0,none⟩)(hF:jS K.ys f K.room)(hk0:cO K.ys f K.room c0 b)(hb:b≤300000000000000000)
  (hz : -4294967296≤z∧z≤4294967296) (hd:ds.length=s.deeds.length) (hr:bP w (bB (.blk g 133 (aH s a)::bH a.Ad a.cd ds::K.H c0)) a.Ag s.g.p.length a.cg 1 (aD .i64 s.g.p)) :
  aF prog 65 [.pointer (some ⟨g,0,none⟩),.int .i64 z] (.blk g 133 (aH s a)::bH a.Ad a.cd ds::K.H c0) w
   (fun v S'=>v=.agg (lR (kL (wY K.ys) (hY K.ys) f s z).2).toArray∧GdR K f g a (a.Ag,a.cg,s.g.p) (a.An,a.cn,s.next.p) (b+6000000) (kL (wY K.ys) (hY K.ys) f s z).1 S'):=by
 have i1:=gZ hN.nvl;have i2:=kO hN.nvl;obtain⟨hc1,hc2,hc3,hc4,hc5,hc6,hc7⟩:=qP hN.cf;have h1:cS { s with p:=kB s.p z } k:=⟨hN.cf,hN.ln,hN.p.add hz,hN.w,hN.mode,hN.xy,hN.g,hN.b,hN.bn,hN.tr,hN.seq,hN.time,hN.len,hN.dl⟩;have hA:=fun w ho=>aWf g s a w z ho hN.p;have hLn:=fun w ho=>aWh g { s with p:=kB s.p z } a w ho h1.p;have hLk:=fun w ho=>aVu K c0 f g k { s with p:=kB s.p z } a b w ho h1 oo hp hF hk0 oo;have hWg:=fun hh w ho hr=>bCg K c0 f g k s a ds z b w ho hN hk hh hp hF hk0 oo hz hd hr;have hG:kL (wY K.ys) (hY K.ys) f s z=if s.mode=1 then (if s.cf.need≤(kB s.p z).n then mV (wY K.ys) (hY K.ys) f { s with p:=kB s.p z }else ({ s with p:=kB s.p z },kX))else if fG s.mode then ((gE (wY K.ys) (hY K.ys) f s z).1,{ (gE (wY K.ys) (hY K.ys) f s z).2 with lost:=(gE (wY K.ys) (hY K.ys) f s z).2.lost||uA (gE (wY K.ys) (hY K.ys) f s z).1.cf (gE (wY K.ys) (hY K.ys) f s z).1.w,over:=wQ (gE (wY K.ys) (hY K.ys) f s z).1 })else (s,kX):=rfl;rw[hG];clear hG;refine aJ func65 rfl ntmps65 rfl hown (fun _=>?_);simp only[aG];by_cases hm:s.mode=1
 ·rw[if_pos hm];clear hWg;have iE:∀w0 W H t u a b,MS prog w0 W H (.binOp .eql t a b u) [.int .i64 s.mode,.int .i64 1] (.bool true) True:=fun _ _ _ _ _ _ _=>cD inferInstance trivial (congrArg Value.bool (by rw[hm];rfl));refine aB;rename_i b4;refine lf rfl rfl rfl (S:=[.blk g 133 (aH s a)]) (fun w hw ho=>hA w ho) ?_;rintro v S' ⟨bb,rfl,rfl⟩;have i5:=gZ h1.nvl;have h1n:kD ({ s with p:=kB s.p z }:aK):=h1.nvl;generalize hs1:({ s with p:=kB s.p z }:aK)=s1 at *;have e1:(kB s.p z).n=s1.p.n:=by rw[← hs1]
  have e2:s.cf=s1.cf:=by rw[← hs1]
  have e3:s.g=s1.g∧s.next=s1.next∧s.deeds=s1.deeds:=by rw[← hs1];exact⟨rfl,rfl,rfl⟩
  rw[e1,e2];have i6:=kO h1n;obtain⟨g1,g2,g3⟩:=e3;by_cases hnd:s1.cf.need≤s1.p.n
  ·rw[if_pos hnd];have hlk:=aVp (W:=wY K.ys) (H:=hY K.ys) (f:=f) s1;have iG1:∀w0 W H t u a b,MS prog w0 W H (.binOp .geq t a b u) [.int .i64 (s1.p.n:Int),.int .i64 s1.cf.need] (.bool true) True:=fun _ _ _ _ _ _ _=>cD inferInstance trivial (congrArg Value.bool (by simp[hnd]));have iG2:∀w0 W H t u a b,LV prog w0 W H (.binOp .geq t a b u) [.int .i64 (s1.p.n:Int),.int .i64 s1.cf.need] (.bool true) True:=fun _ _ _ _ _ _ _=>gH inferInstance trivial (congrArg Value.bool (by simp[hnd]));refine aB;refine dM [.blk g 133 (aH s1 a)] [true,true,true,false,true,true,true,true,true,false] [3,9] aA.au rfl od bD ?_;repeat' (first|refine fN rfl rfl rfl ?_|(refine fM rfl rfl rfl ?_ ?_;(next=>first|exact trivial|omega))|refine fC ?_)
   refine fX ?_;intro _;all_goals refine cE
   refine lf rfl rfl rfl (S:=[.blk g 133 (aH s1 a)]) (fun w hw ho=>hLn w ho) ?_;rintro v S' ⟨rfl,rfl⟩;all_goals refine cE
   refine lf rfl rfl rfl (S:=.blk g 133 (aH s1 a)::K.H c0) (fun w hw ho=>hLk w ho) ?_;generalize mV (wY K.ys) (hY K.ys) f s1=lr at *;obtain⟨s2,ii⟩:=lr;obtain⟨b1,b2,b3,b5,b6,b7,b8,b9,b10⟩:=ii;dsimp only at hlk ⊢;rintro v S' ⟨rfl,c1,hk1,A2,c2,R,⟨rfl,rfl,rfl,hnx⟩|rfl,rfl⟩
   ·simp only[List.cons_append,List.nil_append];refine dH (e:=2) (size:=1) ?_;refine aB;refine eC (S':=.row (.slice none 0 0) 2 1 0 []::.blk g 133 (aH s2 a)::bH a.Ad a.cd ds::K.H c1) aA.au ?_;refine cZ;exact⟨rfl,c1,a,ds,none,0,[],hk1,⟨rfl,rfl,rfl,rfl,rfl⟩,by rw[hlk.2,← g3];exact hd,.inr (by rw[hlk.1,← g1]),.inr (by rw[hnx,← g2]),rfl⟩
   ·simp only[List.cons_append,List.nil_append];refine aB;refine eC (S':=.row (.slice A2 s2.next.p.length c2) 2 1 s2.next.p.length (aD .i64 s2.next.p)::.blk g 133 (aH s2 { a with An:=A2,cn:=c2 })::bH a.Ad a.cd ds::K.H c1) aA.au ?_;refine cZ;exact⟨rfl,c1,{ a with An:=A2,cn:=c2 },ds,A2,c2,s2.next.p,hk1,⟨rfl,rfl,rfl,rfl,rfl⟩,by rw[hlk.2,← g3];exact hd,.inr (by rw[hlk.1,← g1]),.inl rfl,rfl⟩
  ·rw[if_neg hnd];have iG1:∀w0 W H t u a b,MS prog w0 W H (.binOp .geq t a b u) [.int .i64 (s1.p.n:Int),.int .i64 s1.cf.need] (.bool false) True:=fun _ _ _ _ _ _ _=>cD inferInstance trivial (congrArg Value.bool (by simp[hnd]));have iG2:∀w0 W H t u a b,LV prog w0 W H (.binOp .geq t a b u) [.int .i64 (s1.p.n:Int),.int .i64 s1.cf.need] (.bool false) True:=fun _ _ _ _ _ _ _=>gH inferInstance trivial (congrArg Value.bool (by simp[hnd]));refine aB;refine dM [.blk g 133 (aH s1 a)] [true,true,true,false,true,true,true,true,true,false] [3,9] aA.au rfl od bD ?_;repeat' (first|refine fN rfl rfl rfl ?_|(refine fM rfl rfl rfl ?_ ?_;(next=>first|exact trivial|omega))|refine fC ?_)
   refine fX ?_;intro _;all_goals refine cE
   refine lf rfl rfl rfl (S:=[.blk g 133 (aH s1 a)]) (fun w hw ho=>hLn w ho) ?_;rintro v S' ⟨rfl,rfl⟩;all_goals refine cE
   refine dH (e:=2) (size:=1) ?_;refine eC (S':=.row (.slice none 0 0) 2 1 0 []::.blk g 133 (aH s1 a)::bH a.Ad a.cd ds::K.H c0) aA.au ?_;refine cZ;exact⟨rfl,c0,a,ds,none,0,[],hk0.mono oo,⟨rfl,rfl,rfl,rfl,rfl⟩,by rw[← g3];exact hd,.inr (by rw[← g1]),.inr (by rw[← g2]),rfl⟩
 ·rw[if_neg hm];clear hA hLn hLk;have iE:∀w0 W H t u a b,MS prog w0 W H (.binOp .eql t a b u) [.int .i64 s.mode,.int .i64 1] (.bool false) True:=fun _ _ _ _ _ _ _=>cD inferInstance trivial (congrArg Value.bool (by simpa using hm));have iH:=holds_cv s.mode;by_cases hh:fG s.mode=true
  ·rw[if_pos hh];rw[decide_eq_true (of_decide_eq_true hh)]at iH;obtain⟨r1,-,-,-⟩:=aHs (W:=wY K.ys) (H:=hY K.ys) (f:=f) hN hh z oo;have hlo:=bCb (W:=wY K.ys) (H:=hY K.ys) (f:=f) s z;have hnx:=bCc (W:=wY K.ys) (H:=hY K.ys) (f:=f) s z;refine aB;rename_i b4;refine lf rfl rfl rfl (S:=.blk g 133 (aH s a)::bH a.Ad a.cd ds::K.H c0) (fun w hw ho=>hWg hh w ho ⟨hr.h.go hw aC.au⟩) ?_;generalize gE (wY K.ys) (hY K.ys) f s z=wr at *;obtain⟨s2,ii⟩:=wr;obtain⟨b1,b2,b3,b5,b6,b7,b8,b9,b10⟩:=ii;dsimp only at hlo hnx r1 ⊢;subst hlo;rintro v S' ⟨rfl,c1,a2,ds2,Ax,cx,xs,hk1,⟨q1,q2,q3,q4,q5,q6,q7⟩,hd2,hpg,rfl⟩;have j1:=gZ r1.nvl;have j2:=kO r1.nvl;have hwt:=r1.wt oo;have iLs:CV prog 114 [.agg (gQ s2.cf s2.w []).toArray] (.bool (uA s2.cf s2.w)) True:=⟨fun _ w=>aOt s2.cf s2.w w hwt⟩;have hov:=fun w ho=>aMb g s2 a2 w ho r1.nvl r1.marks.2.2.2.2.1;generalize uA s2.cf s2.w=wl at *;refine aB;refine lf rfl rfl rfl (S:=[.blk g 133 (aH s2 a2)]) (fun w hw ho=>hov w ho) ?_;rintro v S' ⟨rfl,rfl⟩;refine aB;refine eC (S':=.row (.slice Ax xs.length cx) 2 1 xs.length (aD .i64 xs)::.blk g 133 (aH s2 a2)::bH a2.Ad a2.cd ds2::K.H c1) aA.au ?_;refine cZ;exact⟨rfl,c1,a2,ds2,Ax,cx,xs,hk1.mono oo,⟨q1,q4,q5,q6,q7⟩,hd2,hpg,.inr (by rw[q2,q3,hnx]),rfl⟩
  ·rw[if_neg hh];rw[decide_eq_false (fun h=>hh (decide_eq_true h))]at iH;refine aB;refine dH (e:=2) (size:=1) ?_;refine eC (S':=.row (.slice none 0 0) 2 1 0 []::.blk g 133 (aH s a)::bH a.Ad a.cd ds::K.H c0) aA.au ?_;refine cZ;exact⟨rfl,c0,a,ds,none,0,[],hk0.mono oo,⟨rfl,rfl,rfl,rfl,rfl⟩,hd,.inr rfl,.inr rfl,rfl⟩
end Go.Proofs.YtbhchphfmhmabaaGreat
namespace Go.Proofs.YtbhchphfmhmabaaGreat
open Go.RowKit _root_.Go.Proofs.Tryz
@[reducible] def dD(x:gX):HE:=.row (.slice x.1 x.2.2.length x.2.1) 2 1 x.2.2.length (aD .i64 x.2.2)
def fS(y x1 x2:gX):Prop:=y=x1∨y=x2∨y=(none,0,[])
@[reducible] def tB(g:Nat)(s:aK)(a:bQ)(ds:List jT)(x1 x2:gX)(T:List HE):List HE:=dD x1::dD x2::.blk g 133 (aH s a)::bH a.Ad a.cd ds::eM a.Ai a.ci s.ins::eP a.Am a.cm s.modes::T
def yO(ys f:List Int)(s:aK)(a:bQ)(b:Int)(T:List HE):Prop:=(s.mode=4∧a.ptr=none∧T=[])∨∃(K:eH) (c:dK),K.ys=ys∧a.ptr=some ⟨K.g,0,none⟩∧jS K.ys f K.room∧cO K.ys f K.room c b∧T=K.H c
structure NvI(ys f:List Int)(k:Nat)(b:Int)(s:aK)(a:bQ)(ds:List jT)(x1 x2:gX)(T:List HE):Prop where
 ok:cS s k
 near:s.mode≠4→kT s.x s.y=true
 dl:ds.length=s.deeds.length
 g:fS (a.Ag,a.cg,s.g.p) x1 x2
 n:fS (a.An,a.cn,s.next.p) x1 x2
 ca:yO ys f s a b T
theorem fS.ro{y x1 x2:gX}(h:fS y x1 x2){w0 w:World}{W:Nat→Prop}{H S R Q1 Q2:List HE}(hw:St w0 W H w)(hs:aC H S R)(h1:aP R (dD x1) Q1)(h2:aP R (dD x2) Q2):bP w (bB S) y.1 y.2.2.length y.2.1 1 (aD .i64 y.2.2):=by
 rcases h with rfl|rfl|rfl
 ·exact⟨Ro.row hw hs h1⟩
 ·exact⟨Ro.row hw hs h2⟩
 ·exact⟨Ro.nil _ _ _⟩
theorem aD4{gg nn x x1 x2:gX}(hg:gg=x∨fS gg x1 x2)(hn:nn=x∨fS nn x1 x2):∃y1 y2:gX,fS gg y1 y2∧fS nn y1 y2∧∀R:List HE,aA (dD y1::dD y2::R) (dD (none,0,[])::dD (none,0,[])::dD x::dD x1::dD x2::R):=by
 have key:∀(y:gX),(y=x∨fS y x1 x2)→y=(none,0,[])∨y=x∨y=x1∨y=x2:=by
  rintro y (h|h|h|h)
  ·exact .inr (.inl h)
  ·exact .inr (.inr (.inl h))
  ·exact .inr (.inr (.inr h))
  ·exact .inl h
 rcases key gg hg with e1|e1|e1|e1<;>rcases key nn hn with e2|e2|e2|e2
 ·exact⟨(none,0,[]),(none,0,[]),.inl e1,.inl e2,fun R=>.cons (.here _ _) (.cons (.here _ _) (.skip (.skip (.skip (.refl _) _) _) _))⟩
 ·exact⟨(none,0,[]),x,.inl e1,.inr (.inl e2),fun R=>.cons (.here _ _) (.cons (.there _ (.here _ _)) (.skip (.skip (.skip (.refl _) _) _) _))⟩
 ·exact⟨(none,0,[]),x1,.inl e1,.inr (.inl e2),fun R=>.cons (.here _ _) (.cons (.there _ (.there _ (.here _ _))) (.skip (.skip (.skip (.refl _) _) _) _))⟩
 ·exact⟨(none,0,[]),x2,.inl e1,.inr (.inl e2),fun R=>.cons (.here _ _) (.cons (.there _ (.there _ (.there _ (.here _ _)))) (.skip (.skip (.skip (.refl _) _) _) _))⟩
 ·exact⟨x,(none,0,[]),.inl e1,.inr (.inl e2),fun R=>.cons (.there _ (.there _ (.here _ _))) (.cons (.there _ (.here _ _)) (.skip (.skip (.skip (.refl _) _) _) _))⟩
 ·exact⟨x,(none,0,[]),.inl e1,.inl e2,fun R=>.cons (.there _ (.there _ (.here _ _))) (.cons (.there _ (.here _ _)) (.skip (.skip (.skip (.refl _) _) _) _))⟩
 ·exact⟨x,x1,.inl e1,.inr (.inl e2),fun R=>.cons (.there _ (.there _ (.here _ _))) (.cons (.there _ (.there _ (.here _ _))) (.skip (.skip (.skip (.refl _) _) _) _))⟩
 ·exact⟨x,x2,.inl e1,.inr (.inl e2),fun R=>.cons (.there _ (.there _ (.here _ _))) (.cons (.there _ (.there _ (.there _ (.here _ _)))) (.skip (.skip (.skip (.refl _) _) _) _))⟩
 ·exact⟨x1,(none,0,[]),.inl e1,.inr (.inl e2),fun R=>.cons (.there _ (.there _ (.there _ (.here _ _)))) (.cons (.there _ (.here _ _)) (.skip (.skip (.skip (.refl _) _) _) _))⟩
 ·exact⟨x1,x,.inl e1,.inr (.inl e2),fun R=>.cons (.there _ (.there _ (.there _ (.here _ _)))) (.cons (.there _ (.there _ (.here _ _))) (.skip (.skip (.skip (.refl _) _) _) _))⟩
 ·exact⟨x1,(none,0,[]),.inl e1,.inl e2,fun R=>.cons (.there _ (.there _ (.there _ (.here _ _)))) (.cons (.there _ (.here _ _)) (.skip (.skip (.skip (.refl _) _) _) _))⟩
 ·exact⟨x1,x2,.inl e1,.inr (.inl e2),fun R=>.cons (.there _ (.there _ (.there _ (.here _ _)))) (.cons (.there _ (.there _ (.there _ (.here _ _)))) (.skip (.skip (.skip (.refl _) _) _) _))⟩
 ·exact⟨x2,(none,0,[]),.inl e1,.inr (.inl e2),fun R=>.cons (.there _ (.there _ (.there _ (.there _ (.here _ _))))) (.cons (.there _ (.here _ _)) (.skip (.skip (.skip (.refl _) _) _) _))⟩
 ·exact⟨x2,x,.inl e1,.inr (.inl e2),fun R=>.cons (.there _ (.there _ (.there _ (.there _ (.here _ _))))) (.cons (.there _ (.there _ (.here _ _))) (.skip (.skip (.skip (.refl _) _) _) _))⟩
 ·exact⟨x2,x1,.inl e1,.inr (.inl e2),fun R=>.cons (.there _ (.there _ (.there _ (.there _ (.here _ _))))) (.cons (.there _ (.there _ (.there _ (.here _ _)))) (.skip (.skip (.skip (.refl _) _) _) _))⟩
 ·exact⟨x2,(none,0,[]),.inl e1,.inl e2,fun R=>.cons (.there _ (.there _ (.there _ (.there _ (.here _ _))))) (.cons (.there _ (.here _ _)) (.skip (.skip (.skip (.refl _) _) _) _))⟩
theorem fS.ro3{y x x1 x2:gX}(h:y=x∨fS y x1 x2){w0 w:World}{W:Nat→Prop}{H S R Q0 Q1 Q2:List HE}(hw:St w0 W H w)(hs:aC H S R)(h0:aP R (dD x) Q0)(h1:aP R (dD x1) Q1)(h2:aP R (dD x2) Q2):bP w (bB S) y.1 y.2.2.length y.2.1 1 (aD .i64 y.2.2):=by
 rcases h with rfl|h
 ·exact⟨Ro.row hw hs h0⟩
 ·exact h.ro hw hs h1 h2
theorem bAo(s:aK)(i:jJ)(say:Bool):(gM s i say).1.next=s.next:=by
 rw[aNh];have key:(yH s i).next=s.next:=by
  unfold yH;dsimp only;repeat' split
  all_goals rfl
 split
 ·exact key
 ·exact key
theorem yO.of{ys f:List Int}{s:aK}{a:bQ}{b:Int}{T:List HE}(h:yO ys f s a b T)(hm:s.mode≠4):∃(K:eH) (c:dK),K.ys=ys∧a.ptr=some ⟨K.g,0,none⟩∧jS K.ys f K.room∧cO K.ys f K.room c b∧T=K.H c:=by
 rcases h with⟨h,-⟩|h
 ·exact absurd h hm
 ·exact h
theorem yO.mono{ys f:List Int}{s t:aK}{a:bQ}{b c:Int}{T:List HE}(h:yO ys f s a b T)(hm:t.mode=s.mode)(hb:b≤c):yO ys f t a c T:=by
 rcases h with⟨h,h2⟩ | ⟨K,c0,h1,h2,h3,h4,h5⟩
 ·exact .inl ⟨by rw[hm];exact h,h2⟩
 ·exact .inr ⟨K,c0,h1,h2,h3,h4.mono hb,h5⟩
theorem aW9(s:aK)(dx dy:Int):(kA s dx dy).1.next=s.next∧(kA s dx dy).2.clear=false:=by
 unfold kA;dsimp only;split
 ·exact⟨rfl,rfl⟩
 ·repeat' split
  all_goals exact⟨rfl,rfl⟩
theorem cS.timed{s:aK}{k:Nat}(h:cS s k){t:Int}(ht:bG .u32 t):cS { s with time:=t } k:=⟨h.cf,h.ln,h.p,h.w,h.mode,h.xy,h.g,h.b,h.bn,h.tr,h.seq,ht,h.len,h.dl⟩
def TkR(ys f:List Int)(k:Nat)(b:Int)(g:Nat)(r:aK×List lM)(v:Value)(S':List HE):Prop:=∃So a2 ds2 y1 y2 T2,aE5 r.2 v So∧S'=So++tB g r.1 a2 ds2 y1 y2 T2∧NvI ys f k b r.1 a2 ds2 y1 y2 T2
theorem mU{N:Nat}{ds:List Deferred}{w0:World}{W:Nat→Prop}{σ:List (Nat×Value)}{H:List HE}{q:Act→World→Prop}(h:J N ds w0 W σ (dD (none,0,[])::H) q):J N ds w0 W σ H q:=dH (e:=2) (size:=1) h
attribute [local irreducible] OJ J bM Code.wpIn wpListIn Oper.wpIn bodyPost CallsIn aF
theorem bBs(ys f:List Int)(g k:Nat)(s:aK)(a:bQ)(ds:List jT)(x1 x2:gX)(T:List HE)(x:lM)(b:Int)(w:World)(hown:aZ (tB g s a ds x1 x2 T) w)(hI:NvI ys f k b s a ds x1 x2 T)(hx:x.ok)(hk:k≤16777214)(hb:b≤200000000000000000):
  aF prog 23 [.pointer (some ⟨g,0,none⟩),.agg (dU x).toArray] (tB g s a ds x1 x2 T) w (fun v S'=>TkR ys f (k+1) (b+6000000) g (nW (wY ys) (hY ys) f s x) v S'):=by
 have hNear:=bBi (W:=wY ys) (H:=hY ys) (f:=f) hI.near hI.ok.mode x;have hOk:=bBj (W:=wY ys) (H:=hY ys) (f:=f) hI.ok hI.near hx oo;have hN:=hI.ok;have i1:=gZ hN.nvl;have i2:=kO hN.nvl;have hd:=hI.dl;obtain⟨-,-,xt,xa,xb,-⟩:=hx;have hxa : -2147483648≤x.a∧x.a≤2147483647:=xa;have hxb : -2147483648≤x.b∧x.b≤2147483647:=xb;by_cases hm:s.mode=4
 ·have hT:nW (wY ys) (hY ys) f s x=cR s:=by unfold nW;rw[if_pos hm]
  rw[hT]at hNear hOk ⊢;refine aJ func23 rfl ntmps23 rfl hown (fun _=>?_);simp only[aG];refine aB;refine fO (S:=[.blk g 133 (aH s a)]) rfl rfl (aC.cons (.there _ (.there _ (.there _ (.here _ _)))) (aC.nil _)) rfl (fun w hw ho=>vJ g k s a w ho hN oo (hI.g.ro hw (aC.cons (.there _ (.there _ (.there _ (.here _ _)))) (aC.nil _)) (by refine cF) (by refine cF))) ?_;rintro v S' ⟨So,⟨A5,c5,rfl,rfl⟩,rfl⟩;refine aB;simp only[List.cons_append,List.nil_append];exact aM (S':=.row (.slice A5 (cR s).2.length c5) 59 6 (cR s).2.length (aO dU (cR s).2)::tB g (cR s).1 a ds x1 x2 T) rfl rfl (aA.appT (S:=[_,_,_,_,_,_,_]) (H:=[_,_,_,_,_,_,_,_]) T (aA.cons (.here _ _) (aA.cons (.there _ (.there _ (.here _ _))) (aA.cons (.there _ (.there _ (.here _ _))) (aA.cons (.here _ _) (aA.cons (.there _ (.here _ _)) (aA.cons (.there _ (.here _ _)) (aA.cons (.there _ (.here _ _)) (aA.nil _))))))))) ⟨[_],a,ds,x1,x2,T,⟨A5,c5,rfl,rfl⟩,rfl,⟨hOk,hNear,hd,hI.g,hI.n,hI.ca.mono rfl oo⟩⟩
 ·obtain⟨K,c0,rfl,hp,hF,hk0,rfl⟩:=hI.ca.of hm;obtain⟨t1,t2⟩:=hN.ln.take x.kind x.seq x.time (a:=x.a) oo;have hTk:=fun w ho=>aWj g s a w x ho hN.ln.1 oo;have hT0:nW (wY K.ys) (hY K.ys) f s x=if (s.ln.take x.kind x.seq x.time x.a).2.2.2=true then gM { (kL (wY K.ys) (hY K.ys) f { s with ln:=(s.ln.take x.kind x.seq x.time x.a).1 } (s.ln.take x.kind x.seq x.time x.a).2.2.1).1 with time:=x.time } (kL (wY K.ys) (hY K.ys) f { s with ln:=(s.ln.take x.kind x.seq x.time x.a).1 } (s.ln.take x.kind x.seq x.time x.a).2.2.1).2 true
    else if (s.ln.take x.kind x.seq x.time x.a).2.1≠6 then ({ s with ln:=(s.ln.take x.kind x.seq x.time x.a).1 },[])
    else gM { (if x.kind=1 then kA { s with ln:=(s.ln.take x.kind x.seq x.time x.a).1 } x.a x.b else if x.kind=5 then ({ s with ln:=(s.ln.take x.kind x.seq x.time x.a).1 },{ kX with start:=decide (x.a=1),stop:=decide (x.a=0) })else ({ s with ln:=(s.ln.take x.kind x.seq x.time x.a).1 },kX)).1 with time:=x.time } (if x.kind=1 then kA { s with ln:=(s.ln.take x.kind x.seq x.time x.a).1 } x.a x.b else if x.kind=5 then ({ s with ln:=(s.ln.take x.kind x.seq x.time x.a).1 },{ kX with start:=decide (x.a=1),stop:=decide (x.a=0) })else ({ s with ln:=(s.ln.take x.kind x.seq x.time x.a).1 },kX)).2 (decide (x.kind=5∨x.kind=4)):=by
   unfold nW;rw[if_neg hm]
  generalize s.ln.take x.kind x.seq x.time x.a=tk at *;obtain⟨ln2,what,z,ok⟩:=tk;dsimp only at t1 t2 hTk hT0;have h1:cS { s with ln:=ln2 } k:=⟨hN.cf,t1,hN.p,hN.w,hN.mode,hN.xy,hN.g,hN.b,hN.bn,hN.tr,hN.seq,hN.time,hN.len,hN.dl⟩;have hw1:kT s.x s.y=true:=hI.near hm;have hig:=hI.g;have hin:=hI.n;have hml:=hN.len;obtain⟨s1,hs1⟩:∃y,({ s with ln:=ln2 }:aK)=y:=⟨_,rfl⟩;rw[hs1]at hT0 h1;have e1:s1.deeds=s.deeds∧s1.g=s.g∧s1.next=s.next∧s1.ins=s.ins∧s1.modes=s.modes∧s1.mode=s.mode∧s1.x=s.x∧s1.y=s.y:=by rw[← hs1];exact⟨rfl,rfl,rfl,rfl,rfl,rfl,rfl,rfl⟩
  refine aJ func23 rfl ntmps23 rfl hown (fun _=>?_);simp only[aG];have iM4:∀w0 W H t u a b,MS prog w0 W H (.binOp .eql t a b u) [.int .i64 s.mode,.int .i64 4] (.bool false) True:=fun _ _ _ _ _ _ _=>cD inferInstance trivial (congrArg Value.bool (by simpa using hm));refine aB;rename_i b3;refine lO (X:=Unit) (fun _=>True) (fun _=>[(0,.pointer (some ⟨g,0,none⟩)),(3,.pointer (some ⟨b3,0,none⟩)),(5,.int .i64 what),(6,.int .i64 z),(7,.bool ok)])
   (fun _=>.blk b3 59 (dU x)::dD x1::dD x2::.blk g 133 (aH s1 a)::bH a.Ad a.cd ds::eM a.Ai a.ci s1.ins::eP a.Am a.cm s1.modes::K.H c0) ?_ ?_
  ·subst hs1;refine dM [.blk b3 59 (dU x)] [true,true,true,true,false,false,false,false,false,false,false,false] [4,5,6,7,8,9,10,11] aA.au rfl od bD ?_;repeat' (first|refine fN rfl rfl rfl ?_|(refine fM rfl rfl rfl ?_ ?_;(next=>first|exact trivial|omega))|refine fC ?_)
   refine fX ?_;intro _;all_goals refine cE
   all_goals refine lf rfl rfl rfl (S:=[.blk g 133 (aH s a)]) (fun w hw ho=>hTk w ho) ?_
   all_goals rintro v S' ⟨rfl,rfl⟩
   all_goals refine cE
   all_goals exact aR () trivial trivial ⟨rfl,rfl,rfl,rfl,rfl,trivial⟩ aA.au
  ·rintro _ -;have i3:=gZ h1.nvl;have i4:=kO h1.nvl;refine aBx ?_;refine lO (X:=Nat) (fun _=>True) (fun q=>[(0,.pointer (some ⟨g,0,none⟩)),(3,.pointer (some ⟨b3,0,none⟩)),(5,.int .i64 what),(6,.int .i64 z),(7,.bool ok),(8,.pointer (some ⟨q,0,none⟩))])
    (fun q=>.blk q 145 [.bool false,.bool false,.bool false,.bool false,.bool false,.bool false,.bool false,.bool false,.bool false]::.blk b3 59 (dU x)::dD x1::dD x2::.blk g 133 (aH s1 a)::bH a.Ad a.cd ds::eM a.Ai a.ci s1.ins::eP a.Am a.cm s1.modes::K.H c0) ?_ ?_
   ·refine aB;rename_i q;exact aR q trivial trivial ⟨rfl,rfl,rfl,rfl,rfl,rfl,trivial⟩ aA.au
   rintro b8 -;obtain⟨d1,d2,d3,d4,d5,d6,d7,d8⟩:=e1;have hig1:fS (a.Ag,a.cg,s1.g.p) x1 x2:=by rw[d2];exact hig
   have hin1:fS (a.An,a.cn,s1.next.p) x1 x2:=by rw[d3];exact hin
   have hd1:ds.length=s1.deeds.length:=by rw[d1];exact hd
   have hw2:kT s1.x s1.y=true:=by rw[d7,d8];exact hw1
   refine aBx ?_;refine aIt ?_;refine aEm (X:=aK×jJ×bQ×List jT×gX×dK)
    (fun q=>nW (wY K.ys) (hY K.ys) f s x=gM { q.1 with time:=x.time } q.2.1 (ok||decide (x.kind=5∨x.kind=4))∧cS q.1 (k+1)∧(q.1.ins=s1.ins∧q.1.modes=s1.modes)∧(q.2.1.clear=true→cH q.1.next∧mN q.1.next 0)∧q.2.2.1.ptr=a.ptr∧q.2.2.2.1.length=q.1.deeds.length ∧
     (((q.2.2.1.Ag,q.2.2.1.cg,q.1.g.p):gX)=q.2.2.2.2.1∨fS (q.2.2.1.Ag,q.2.2.1.cg,q.1.g.p) x1 x2)∧(((q.2.2.1.An,q.2.2.1.cn,q.1.next.p):gX)=q.2.2.2.2.1∨fS (q.2.2.1.An,q.2.2.1.cn,q.1.next.p) x1 x2)∧cO K.ys f K.room q.2.2.2.2.2 (b+6000000))
    (fun _=>[(0,.pointer (some ⟨g,0,none⟩)),(3,.pointer (some ⟨b3,0,none⟩)),(7,.bool ok),(8,.pointer (some ⟨b8,0,none⟩))])
    (fun q=>.blk b8 145 (lR q.2.1)::.blk b3 59 (dU x)::dD q.2.2.2.2.1::dD x1::dD x2::.blk g 133 (aH q.1 q.2.2.1)::bH q.2.2.1.Ad q.2.2.1.cd q.2.2.2.1::eM q.2.2.1.Ai q.2.2.1.ci q.1.ins::eP q.2.2.1.Am q.2.2.1.cm q.1.modes::K.H q.2.2.2.2.2) ?_ ?_
   ·cases ok
    ·rw[if_neg od]at hT0;by_cases hwh:what=6
     ·rw[if_neg (Decidable.not_not.2 hwh)]at hT0;have iW:∀w0 W H t u a b,MS prog w0 W H (.binOp .neq t a b u) [.int .i64 what,.int .i64 6] (.bool false) True:=fun _ _ _ _ _ _ _=>cD inferInstance trivial (congrArg Value.bool (by simp[hwh]));by_cases hk1:x.kind=1
      ·rw[if_pos hk1]at hT0;have iK:∀w0 W H t u a b,MS prog w0 W H (.binOp .eql t a b u) [.int .i64 x.kind,.int .i64 1] (.bool true) True:=fun _ _ _ _ _ _ _=>cD inferInstance trivial (congrArg Value.bool (by simp[hk1]));obtain⟨m1,m2,m3⟩:=aLo h1 (dx:=x.a) (dy:=x.b) ⟨hxa,hxb⟩ oo;obtain⟨m4,m5,-⟩:=aG1 s1 x.a x.b;obtain⟨m6,m7⟩:=aW9 s1 x.a x.b;have hMv:=fun w ho hr=>aWa g k s1 a ds x.a x.b w ho h1 oo hd1 ⟨by show (-9223372036854775808:Int)≤_∧_≤(9223372036854775807:Int);omega,by show (-9223372036854775808:Int)≤_∧_≤(9223372036854775807:Int);omega⟩ hr;refine aB;refine lf rfl rfl rfl (S:=[.blk g 133 (aH s1 a),bH a.Ad a.cd ds]) (fun w hw ho=>hMv w ho (hig1.ro hw aC.au (by refine cF) (by refine cF))) ?_;generalize kA s1 x.a x.b=mr at *;obtain⟨s2,ii⟩:=mr;obtain⟨j1,j2,j3,j5,j6,j7,j8,j9,j10⟩:=ii;dsimp only at hT0 m1 m2 m3 m4 m5 m6 m7 ⊢;subst m7;rintro v S' ⟨rfl,a2,ds2,R,⟨p1,p2,p3,p4,p5,p6,p7⟩,hd2,⟨rfl,p8,p9,p10⟩|rfl,rfl⟩
       ·simp only[List.cons_append,List.nil_append];refine mU ?_;rw[← m4,← m5,← p4,← p5,← p6,← p7];refine aB;exact aR (s2,⟨j1,j2,j3,false,j6,j7,j8,j9,j10⟩,a2,ds2,(none,0,[]),c0) ⟨hT0,m1,⟨rfl,rfl⟩,fun h=>(by cases h),p1,hd2,.inr (by rw[p8,p9,p10];exact hig1),.inr (by rw[p2,p3,m6];exact hin1),hk0.mono oo⟩ trivial ⟨rfl,rfl,rfl,rfl,trivial⟩ aA.au
       ·simp only[List.cons_append,List.nil_append];rw[← m4,← m5,← p4,← p5,← p6,← p7];refine aB;exact aR (s2,⟨j1,j2,j3,false,j6,j7,j8,j9,j10⟩,a2,ds2,(a2.Ag,a2.cg,s2.g.p),c0) ⟨hT0,m1,⟨rfl,rfl⟩,fun h=>(by cases h),p1,hd2,.inl rfl,.inr (by rw[p2,p3,m6];exact hin1),hk0.mono oo⟩ trivial ⟨rfl,rfl,rfl,rfl,trivial⟩ aA.au
      ·rw[if_neg hk1]at hT0;have iK:∀w0 W H t u a b,MS prog w0 W H (.binOp .eql t a b u) [.int .i64 x.kind,.int .i64 1] (.bool false) True:=fun _ _ _ _ _ _ _=>cD inferInstance trivial (congrArg Value.bool (by simpa using hk1));by_cases hk5:x.kind=5
       ·rw[if_pos hk5]at hT0;have iK5:∀w0 W H t u a b,MS prog w0 W H (.binOp .eql t a b u) [.int .i64 x.kind,.int .i64 5] (.bool true) True:=fun _ _ _ _ _ _ _=>cD inferInstance trivial (congrArg Value.bool (by simp[hk5]));have iA1:∀w0 W H t u a b,MS prog w0 W H (.binOp .eql t a b u) [.int .i32 x.a,.int .i32 1] (.bool (decide (x.a=1))) True:=fun _ _ _ _ _ _ _=>cD inferInstance trivial rfl;have iA0:∀w0 W H t u a b,MS prog w0 W H (.binOp .eql t a b u) [.int .i32 x.a,.int .i32 0] (.bool (decide (x.a=0))) True:=fun _ _ _ _ _ _ _=>cD inferInstance trivial rfl;refine mU ?_;refine aB;exact aR (s1,⟨decide (x.a=1),decide (x.a=0),false,false,false,false,false,false,false⟩,a,ds,(none,0,[]),c0) ⟨hT0,h1.up (Nat.le_succ k),⟨rfl,rfl⟩,fun h=>(by cases h),rfl,hd1,.inr hig1,.inr hin1,hk0.mono oo⟩ trivial ⟨rfl,rfl,rfl,rfl,trivial⟩ aA.au
       ·rw[if_neg hk5]at hT0;have iK5:∀w0 W H t u a b,MS prog w0 W H (.binOp .eql t a b u) [.int .i64 x.kind,.int .i64 5] (.bool false) True:=fun _ _ _ _ _ _ _=>cD inferInstance trivial (congrArg Value.bool (by simpa using hk5));refine mU ?_;refine aB;exact aR (s1,⟨false,false,false,false,false,false,false,false,false⟩,a,ds,(none,0,[]),c0) ⟨hT0,h1.up (Nat.le_succ k),⟨rfl,rfl⟩,fun h=>(by cases h),rfl,hd1,.inr hig1,.inr hin1,hk0.mono oo⟩ trivial ⟨rfl,rfl,rfl,rfl,trivial⟩ aA.au
     ·rw[if_pos hwh]at hT0;have iW:∀w0 W H t u a b,MS prog w0 W H (.binOp .neq t a b u) [.int .i64 what,.int .i64 6] (.bool true) True:=fun _ _ _ _ _ _ _=>cD inferInstance trivial (congrArg Value.bool (by simpa using hwh));rw[hT0]at hNear hOk ⊢;refine aB;refine dH (e:=59) (size:=6) ?_;exact aM (S':=.row (.slice none 0 0) 59 6 0 []::tB g s1 a ds x1 x2 (K.H c0)) rfl rfl aA.au ⟨[_],a,ds,x1,x2,K.H c0,⟨none,0,rfl,rfl⟩,rfl,⟨hOk,hNear,hd1,hig1,hin1,.inr ⟨K,c0,rfl,hp,hF,hk0.mono oo,rfl⟩⟩⟩
    ·rw[if_pos rfl]at hT0;have hGr:=fun w ho hr=>aU1 K c0 f g k s1 a ds z b w ho h1 oo hp hF hk0 oo t2 hd1 hr;obtain⟨r1,r2,r3,r4⟩:=aKd (W:=wY K.ys) (H:=hY K.ys) (f:=f) h1 hw2 t2 oo;obtain⟨m4,m5,-⟩:=aFe (W:=wY K.ys) (H:=hY K.ys) (f:=f) s1 z;refine aB;refine lf rfl rfl rfl (S:=.blk g 133 (aH s1 a)::bH a.Ad a.cd ds::K.H c0) (fun w hw ho=>hGr w ho (hig1.ro hw aC.au (by refine cF) (by refine cF))) ?_;generalize kL (wY K.ys) (hY K.ys) f s1 z=gr at *;obtain⟨s2,ii⟩:=gr;obtain⟨j1,j2,j3,j5,j6,j7,j8,j9,j10⟩:=ii;dsimp only at hT0 r1 r2 r3 r4 m4 m5 ⊢;rintro v S' ⟨rfl,c1,a2,ds2,Ax,cx,xs,hk1,⟨p1,p4,p5,p6,p7⟩,hd2,hpg,hpn,rfl⟩;rw[← m4,← m5,← p4,← p5,← p6,← p7];refine aB;exact aR (s2,⟨j1,j2,j3,j5,j6,j7,j8,j9,j10⟩,a2,ds2,(Ax,cx,xs),c1) ⟨hT0,r1,⟨rfl,rfl⟩,r4,p1,hd2,hpg.imp id (fun h=>by rw[h];exact hig1),hpn.imp id (fun h=>by rw[h];exact hin1),hk1⟩ trivial ⟨rfl,rfl,rfl,rfl,trivial⟩ aA.au
   ·rintro⟨s2,i2,a2,ds2,x3,c1⟩ ⟨hT,r1,⟨m4,m5⟩,r4,p1,hd2,hgg,hnn,hk1⟩;dsimp only at hT r1 m4 m5 r4 p1 hd2 hgg hnn hk1 ⊢;rw[hT]at hNear hOk ⊢;have r1t:=r1.timed xt;have i5:=gZ r1.nvl;have i6:=kO r1.nvl;have hSt:=fun say w ho hr hx=>bAp g (k+1) { s2 with time:=x.time } a2 ds2 i2 say w ho r1t oo (by show s2.modes.length+1≤k+1;rw[m5,d5];omega) r4 hd2 hr hx;have hnx:=fun say=>bAo { s2 with time:=x.time } i2 say;obtain⟨b1,b2,b4,b5,b6,b7,b9,b10,b11⟩:=i2;cases ok
    ·by_cases hk5:x.kind=5
     ·have hsay:(false||decide (x.kind=5∨x.kind=4))=true:=by simp[hk5]
      have iK5:∀w0 W H t u a b,MS prog w0 W H (.binOp .eql t a b u) [.int .i64 x.kind,.int .i64 5] (.bool true) True:=fun _ _ _ _ _ _ _=>cD inferInstance trivial (congrArg Value.bool (by simp[hk5]));rw[hsay]at hNear hOk ⊢;have hSf:=hSt true;have hnf:=hnx true;clear hSt hnx;generalize gM { s2 with time:=x.time } ⟨b1,b2,b4,b5,b6,b7,b9,b10,b11⟩ true=sr at *;obtain⟨s4,out⟩:=sr;dsimp only at hnf hNear hOk hSf ⊢;refine aB;refine lf rfl rfl rfl (S:=[.blk g 133 (aH { s2 with time:=x.time } a2),bH a2.Ad a2.cd ds2,eM a2.Ai a2.ci s2.ins,eP a2.Am a2.cm s2.modes]) (fun w hw ho=>hSf w ho (fS.ro3 (y:=(a2.Ag,a2.cg,s2.g.p)) hgg hw aC.au (by refine cF) (by refine cF) (by refine cF)) (fS.ro3 (y:=(a2.An,a2.cn,s2.next.p)) hnn hw aC.au (by refine cF) (by refine cF) (by refine cF))) ?_;rintro v S' ⟨So,S2,⟨A5,c5,rfl,rfl⟩,rfl,a3,ds3,⟨q1,q2,q3⟩,hd3,hgr,rfl⟩;simp only[List.cons_append,List.nil_append];refine aB;have hG:((a3.Ag,a3.cg,s4.g.p):gX)=x3∨fS (a3.Ag,a3.cg,s4.g.p) x1 x2:=by
       rcases hgr with⟨u1,u2,u3⟩ | ⟨u1,u2,u3⟩ | ⟨u1,u2,u3⟩
       ·rw[u1,u2,u3];exact hgg
       ·rw[u1,u2,u3];exact .inr (.inr (.inr rfl))
       ·rw[u1,u2,u3];exact hnn
      have hNn:((a3.An,a3.cn,s4.next.p):gX)=x3∨fS (a3.An,a3.cn,s4.next.p) x1 x2:=by rw[q2,q3,hnf];exact hnn
      obtain⟨y1,y2,hy1,hy2,hsub⟩:=aD4 hG hNn;refine mU ?_;refine mU ?_;refine jP (H':=dD (none,0,[])::dD (none,0,[])::dD x3::dD x1::dD x2::.row (.slice A5 out.length c5) 59 6 out.length (aO dU out)::.blk g 133 (aH s4 a3)::bH a3.Ad a3.cd ds3::eM a3.Ai a3.ci s4.ins::eP a3.Am a3.cm s4.modes::K.H c1) aA.au ?_;refine jP (hsub _) ?_;exact aM (S':=.row (.slice A5 out.length c5) 59 6 out.length (aO dU out)::tB g s4 a3 ds3 y1 y2 (K.H c1)) rfl rfl aA.au ⟨[_],a3,ds3,y1,y2,K.H c1,⟨A5,c5,rfl,rfl⟩,rfl,⟨hOk,hNear,hd3,hy1,hy2,.inr ⟨K,c1,rfl,by rw[q1,p1];exact hp,hF,hk1,rfl⟩⟩⟩
     ·have iK5:∀w0 W H t u a b,MS prog w0 W H (.binOp .eql t a b u) [.int .i64 x.kind,.int .i64 5] (.bool false) True:=fun _ _ _ _ _ _ _=>cD inferInstance trivial (congrArg Value.bool (by simpa using hk5));by_cases hk4:x.kind=4
      ·have hsay:(false||decide (x.kind=5∨x.kind=4))=true:=by simp[hk4]
       have iK4:∀w0 W H t u a b,MS prog w0 W H (.binOp .eql t a b u) [.int .i64 x.kind,.int .i64 4] (.bool true) True:=fun _ _ _ _ _ _ _=>cD inferInstance trivial (congrArg Value.bool (by simp[hk4]));rw[hsay]at hNear hOk ⊢;have hSf:=hSt true;have hnf:=hnx true;clear hSt hnx;generalize gM { s2 with time:=x.time } ⟨b1,b2,b4,b5,b6,b7,b9,b10,b11⟩ true=sr at *;obtain⟨s4,out⟩:=sr;dsimp only at hnf hNear hOk hSf ⊢;refine aB;refine lf rfl rfl rfl (S:=[.blk g 133 (aH { s2 with time:=x.time } a2),bH a2.Ad a2.cd ds2,eM a2.Ai a2.ci s2.ins,eP a2.Am a2.cm s2.modes]) (fun w hw ho=>hSf w ho (fS.ro3 (y:=(a2.Ag,a2.cg,s2.g.p)) hgg hw aC.au (by refine cF) (by refine cF) (by refine cF)) (fS.ro3 (y:=(a2.An,a2.cn,s2.next.p)) hnn hw aC.au (by refine cF) (by refine cF) (by refine cF))) ?_;rintro v S' ⟨So,S2,⟨A5,c5,rfl,rfl⟩,rfl,a3,ds3,⟨q1,q2,q3⟩,hd3,hgr,rfl⟩;simp only[List.cons_append,List.nil_append];refine aB;have hG:((a3.Ag,a3.cg,s4.g.p):gX)=x3∨fS (a3.Ag,a3.cg,s4.g.p) x1 x2:=by
        rcases hgr with⟨u1,u2,u3⟩ | ⟨u1,u2,u3⟩ | ⟨u1,u2,u3⟩
        ·rw[u1,u2,u3];exact hgg
        ·rw[u1,u2,u3];exact .inr (.inr (.inr rfl))
        ·rw[u1,u2,u3];exact hnn
       have hNn:((a3.An,a3.cn,s4.next.p):gX)=x3∨fS (a3.An,a3.cn,s4.next.p) x1 x2:=by rw[q2,q3,hnf];exact hnn
       obtain⟨y1,y2,hy1,hy2,hsub⟩:=aD4 hG hNn;refine mU ?_;refine mU ?_;refine jP (H':=dD (none,0,[])::dD (none,0,[])::dD x3::dD x1::dD x2::.row (.slice A5 out.length c5) 59 6 out.length (aO dU out)::.blk g 133 (aH s4 a3)::bH a3.Ad a3.cd ds3::eM a3.Ai a3.ci s4.ins::eP a3.Am a3.cm s4.modes::K.H c1) aA.au ?_;refine jP (hsub _) ?_;exact aM (S':=.row (.slice A5 out.length c5) 59 6 out.length (aO dU out)::tB g s4 a3 ds3 y1 y2 (K.H c1)) rfl rfl aA.au ⟨[_],a3,ds3,y1,y2,K.H c1,⟨A5,c5,rfl,rfl⟩,rfl,⟨hOk,hNear,hd3,hy1,hy2,.inr ⟨K,c1,rfl,by rw[q1,p1];exact hp,hF,hk1,rfl⟩⟩⟩
      ·have hsay:(false||decide (x.kind=5∨x.kind=4))=false:=by simp[hk4,hk5]
       have iK4:∀w0 W H t u a b,MS prog w0 W H (.binOp .eql t a b u) [.int .i64 x.kind,.int .i64 4] (.bool false) True:=fun _ _ _ _ _ _ _=>cD inferInstance trivial (congrArg Value.bool (by simpa using hk4));rw[hsay]at hNear hOk ⊢;have hSf:=hSt false;have hnf:=hnx false;clear hSt hnx;generalize gM { s2 with time:=x.time } ⟨b1,b2,b4,b5,b6,b7,b9,b10,b11⟩ false=sr at *;obtain⟨s4,out⟩:=sr;dsimp only at hnf hNear hOk hSf ⊢;refine aB;refine lf rfl rfl rfl (S:=[.blk g 133 (aH { s2 with time:=x.time } a2),bH a2.Ad a2.cd ds2,eM a2.Ai a2.ci s2.ins,eP a2.Am a2.cm s2.modes]) (fun w hw ho=>hSf w ho (fS.ro3 (y:=(a2.Ag,a2.cg,s2.g.p)) hgg hw aC.au (by refine cF) (by refine cF) (by refine cF)) (fS.ro3 (y:=(a2.An,a2.cn,s2.next.p)) hnn hw aC.au (by refine cF) (by refine cF) (by refine cF))) ?_;rintro v S' ⟨So,S2,⟨A5,c5,rfl,rfl⟩,rfl,a3,ds3,⟨q1,q2,q3⟩,hd3,hgr,rfl⟩;simp only[List.cons_append,List.nil_append];refine aB;have hG:((a3.Ag,a3.cg,s4.g.p):gX)=x3∨fS (a3.Ag,a3.cg,s4.g.p) x1 x2:=by
        rcases hgr with⟨u1,u2,u3⟩ | ⟨u1,u2,u3⟩ | ⟨u1,u2,u3⟩
        ·rw[u1,u2,u3];exact hgg
        ·rw[u1,u2,u3];exact .inr (.inr (.inr rfl))
        ·rw[u1,u2,u3];exact hnn
       have hNn:((a3.An,a3.cn,s4.next.p):gX)=x3∨fS (a3.An,a3.cn,s4.next.p) x1 x2:=by rw[q2,q3,hnf];exact hnn
       obtain⟨y1,y2,hy1,hy2,hsub⟩:=aD4 hG hNn;refine mU ?_;refine mU ?_;refine jP (H':=dD (none,0,[])::dD (none,0,[])::dD x3::dD x1::dD x2::.row (.slice A5 out.length c5) 59 6 out.length (aO dU out)::.blk g 133 (aH s4 a3)::bH a3.Ad a3.cd ds3::eM a3.Ai a3.ci s4.ins::eP a3.Am a3.cm s4.modes::K.H c1) aA.au ?_;refine jP (hsub _) ?_;exact aM (S':=.row (.slice A5 out.length c5) 59 6 out.length (aO dU out)::tB g s4 a3 ds3 y1 y2 (K.H c1)) rfl rfl aA.au ⟨[_],a3,ds3,y1,y2,K.H c1,⟨A5,c5,rfl,rfl⟩,rfl,⟨hOk,hNear,hd3,hy1,hy2,.inr ⟨K,c1,rfl,by rw[q1,p1];exact hp,hF,hk1,rfl⟩⟩⟩
    ·have hsay:(true||decide (x.kind=5∨x.kind=4))=true:=aE;rw[hsay]at hNear hOk ⊢;have hSf:=hSt true;have hnf:=hnx true;clear hSt hnx;generalize gM { s2 with time:=x.time } ⟨b1,b2,b4,b5,b6,b7,b9,b10,b11⟩ true=sr at *;obtain⟨s4,out⟩:=sr;dsimp only at hnf hNear hOk hSf ⊢;refine aB;refine lf rfl rfl rfl (S:=[.blk g 133 (aH { s2 with time:=x.time } a2),bH a2.Ad a2.cd ds2,eM a2.Ai a2.ci s2.ins,eP a2.Am a2.cm s2.modes]) (fun w hw ho=>hSf w ho (fS.ro3 (y:=(a2.Ag,a2.cg,s2.g.p)) hgg hw aC.au (by refine cF) (by refine cF) (by refine cF)) (fS.ro3 (y:=(a2.An,a2.cn,s2.next.p)) hnn hw aC.au (by refine cF) (by refine cF) (by refine cF))) ?_;rintro v S' ⟨So,S2,⟨A5,c5,rfl,rfl⟩,rfl,a3,ds3,⟨q1,q2,q3⟩,hd3,hgr,rfl⟩;simp only[List.cons_append,List.nil_append];refine aB;have hG:((a3.Ag,a3.cg,s4.g.p):gX)=x3∨fS (a3.Ag,a3.cg,s4.g.p) x1 x2:=by
      rcases hgr with⟨u1,u2,u3⟩ | ⟨u1,u2,u3⟩ | ⟨u1,u2,u3⟩
      ·rw[u1,u2,u3];exact hgg
      ·rw[u1,u2,u3];exact .inr (.inr (.inr rfl))
      ·rw[u1,u2,u3];exact hnn
     have hNn:((a3.An,a3.cn,s4.next.p):gX)=x3∨fS (a3.An,a3.cn,s4.next.p) x1 x2:=by rw[q2,q3,hnf];exact hnn
     obtain⟨y1,y2,hy1,hy2,hsub⟩:=aD4 hG hNn;refine mU ?_;refine mU ?_;refine jP (H':=dD (none,0,[])::dD (none,0,[])::dD x3::dD x1::dD x2::.row (.slice A5 out.length c5) 59 6 out.length (aO dU out)::.blk g 133 (aH s4 a3)::bH a3.Ad a3.cd ds3::eM a3.Ai a3.ci s4.ins::eP a3.Am a3.cm s4.modes::K.H c1) aA.au ?_;refine jP (hsub _) ?_;exact aM (S':=.row (.slice A5 out.length c5) 59 6 out.length (aO dU out)::tB g s4 a3 ds3 y1 y2 (K.H c1)) rfl rfl aA.au ⟨[_],a3,ds3,y1,y2,K.H c1,⟨A5,c5,rfl,rfl⟩,rfl,⟨hOk,hNear,hd3,hy1,hy2,.inr ⟨K,c1,rfl,by rw[q1,p1];exact hp,hF,hk1,rfl⟩⟩⟩
end Go.Proofs.YtbhchphfmhmabaaGreat
namespace Go.Proofs.YtbhchphfmhmabaaGreat
open Go.RowKit _root_.Go.Proofs.Tryz
@[reducible] def ln0:Ln:=⟨0,0,0,0,false,0,0,0,0,false,0,false,0,0,0,0,0,0,0,0⟩
@[reducible] def tl0:List Value:=[.bool false,.int .i64 0,.int .i64 0,.int .i64 0,.int .i64 0,.int .i64 0,.int .i64 0,.int .i64 0,.int .i64 0,.int .i64 0,.slice none 0 0,.int .i64 0,.int .i64 0,.int .i64 0,.int .i64 0,.int .i64 0,.slice none 0 0,.int .i64 0,.int .i64 0,.int .i64 0,.bool false,.bool false,.int .u16 0,.int .u32 0,.slice none 0 0,.slice none 0 0,.slice none 0 0]
def aJ8:dF:=⟨0,0,0,0,0,0,0,0,0,0,⟨0,0,0⟩,0,0,0,0,0,0,0,0,0,0⟩
def zN:List Value:=aAe aJ8++(.pointer none::(qY ln0++(yM++(zW0++tl0))))
def zNv:Value:=.agg zN.toArray
set_option maxRecDepth 100000 in
instance (priority:=3000):bF prog 133 308 2496 zNv:=⟨Tryz.t133,by kernel_rfl,by kernel_rfl,rfl,rfl⟩
instance:ZC zNv zN:=⟨rfl⟩
def NnR(ys:List Int)(cf:dF)(x y:Int)(v:Value)(S':List HE):Prop :=
 (oR cf≠0∧v=.tuple #[.pointer none,.int .i64 (oR cf)]∧S'=[]) ∨
 (oR cf=0∧∃(g:Nat) (s0:aK) (a:bQ) (T:List HE),v=.tuple #[.pointer (some ⟨g,0,none⟩),.int .i64 0]∧S'=tB g s0 a [] (none,0,[]) (none,0,[]) T∧(∃ptr,a=⟨ptr,none,0,none,0,none,0,none,0,none,0⟩ ∧
  ((s0 = qA cf x y ∧ rJ ys 0 ∧ kT x y = true ∧ ∃ K : eH, K.ys = ys ∧ K.room = 8 ∧ ptr = some ⟨K.g, 0, none⟩ ∧ T = K.H (xZ 8)) ∨
   (s0 = { qA cf x y with mode := 4 } ∧ ptr = none ∧ T = [] ∧ ((∃ code, code ≠ 0 ∧ rJ ys code) ∨ (rJ ys 0 ∧ kT x y = false))))))
theorem aFq{N:Nat}{ds:List Deferred}{w0:World}{W:Nat→Prop}{σ:List (Nat×Value)}{H:List HE}{q:Act→World→Prop}(h:J N ds w0 W σ (bH none 0 []::H) q):J N ds w0 W σ H q:=dH (e:=212) (size:=16) h
theorem aFr{N:Nat}{ds:List Deferred}{w0:World}{W:Nat→Prop}{σ:List (Nat×Value)}{H:List HE}{q:Act→World→Prop}(h:J N ds w0 W σ (eM none 0 []::H) q):J N ds w0 W σ H q:=dH (e:=145) (size:=9) h
theorem aFs{N:Nat}{ds:List Deferred}{w0:World}{W:Nat→Prop}{σ:List (Nat×Value)}{H:List HE}{q:Act→World→Prop}(h:J N ds w0 W σ (eP none 0 []::H) q):J N ds w0 W σ H q:=dH (e:=3) (size:=1) h
theorem bAe{c:dF}(h:mP c):wT c.age c.jump c.throw c.rmost=true:=by unfold mP at h;unfold wT;simp;omega
@[reducible] def yA(ptr:Option Addr):bQ:=⟨ptr,none,0,none,0,none,0,none,0,none,0⟩
attribute [local irreducible] OJ J bM Code.wpIn wpListIn Oper.wpIn bodyPost CallsIn aF
instance newL_cv(c:dF):CV prog 59 [.agg (aH9 c).toArray] (.tuple #[.agg (tO (Ln.new c.age c.jump c.throw c.rmost)).toArray,.int .i64 0]) (mP c):=⟨fun h w=>aSx (aWt c.age c.jump c.throw c.rmost w (bAe h))⟩
theorem aWu(A:Option Addr)(c:Nat)(ys:List Int)(cf:dF)(x y:Int)(w:World)(hr:bP w (bB []) A ys.length c 1 (aD .u8 ys))(hu:dL ys)(hm:ys.length<100000000):
  aF prog 21 [.slice A ys.length c,.agg (aAe cf).toArray,.agg #[.int .i64 x,.int .i64 y]] [] w (NnR ys cf x y):=by
 have iC:=navcheck_cv cf;refine aJ func21 rfl ntmps21 rfl ⟨aE,.nil⟩ (fun n=>?_);simp only[aG];by_cases hc:oR cf=0
 ·rw[hc]at iC;obtain⟨hc1,hc2,hc3,hc4,hc5,hc6,hc7⟩:=qP hc;have iL1:CV prog 59 [.agg (aH9 cf).toArray] (.tuple #[.agg (tO (Ln.new cf.age cf.jump cf.throw cf.rmost)).toArray,.int .i64 0]) True:=⟨fun _ w=>(newL_cv cf).h hc1 w⟩;have iW1:CV prog 60 [.agg (aAu cf).toArray] (.tuple #[.agg (gQ cf jH []).toArray,.int .i64 0]) True:=⟨fun _ w=>aOu cf w hc2⟩;have iLd:yQ [(0,23),(23,1),(24,20),(44,197),(241,40),(281,2),(283,2),(285,1),(286,6),(292,6),(298,2),(300,1),(301,1),(302,1),(303,1),(304,1),(305,1),(306,1),(307,1)] zN [(0,.agg (aAe cf).toArray),(6,.agg #[.int .i64 x,.int .i64 y]),(3,.agg (prE (eD cf.gap)).toArray)] (gU cf++(.pointer none::(qY ln0++eE (eD cf.gap) (gQ aJ8 jH (vK (qA cf x y) (yA none)))))):=⟨by kernel_rfl⟩;have iP:fF (aO bV (eD cf.gap).l) 192:=⟨by rw[kJ,(vC cf.gap).len]⟩;have iWn:fF (aD .i64 jH.l) 32:=⟨by rw[fW];exact(aDt 0).len⟩;refine aB;rename_i b4 b5;refine kG (0::1::2::3::4::5::6::7::[]) ?_;intro _;refine jR;rename_i b9;refine lf rfl rfl rfl (S:=[]) (fun w hw ho=>aWr A c ys 8 w ⟨hr.h.go hw (aC.nil _)⟩ hu hm od) ?_;have iE0:∀w0 W H t u a b,MS prog w0 W H (.binOp .neq t a b u) [.int .i64 0,.int .i64 0] (.bool false) True:=fun _ _ _ _ _ _ _=>cD inferInstance trivial rfl;rintro v S' (⟨code,hne,rfl,rfl,⟨h,-⟩ | ⟨-,h⟩⟩ | ⟨-,h,K,hys,hrm,rfl,rfl⟩)
  ·exfalso;omega
  ·have iE:∀w0 W H t u a b,MS prog w0 W H (.binOp .neq t a b u) [.int .i64 code,.int .i64 0] (.bool true) True:=fun _ _ _ _ _ _ _=>cD inferInstance trivial (congrArg Value.bool (by simpa using hne));refine aB;refine aFs ?_;refine aFr ?_;refine aFq ?_;refine mU ?_;refine mU ?_;exact cY (S':=dD (none,0,[])::dD (none,0,[])::.blk b9 133 (aH { qA cf x y with mode:=4 } (yA none))::bH none 0 []::eM none 0 []::eP none 0 []::[]) rfl rfl rfl (aA.cons (.here _ _) (aA.cons (.here _ _) (aA.cons (.there _ (.there _ (.there _ (.here _ _)))) (aA.cons (.here _ _) (aA.cons (.here _ _) (aA.cons (.here _ _) (aA.nil _))))))) (.inr ⟨hc,b9,{ qA cf x y with mode:=4 },yA none,[],rfl,rfl,none,rfl,.inr ⟨rfl,rfl,rfl,.inl ⟨code,hne,h⟩⟩⟩)
  ·have hrm:K.room=8:=oo;rw[hrm];have iWi:=within_cv x y;cases hw36:kT x y
   ·rw[hw36]at iWi;refine aB;refine aFs ?_;refine aFr ?_;refine aFq ?_;refine mU ?_;refine mU ?_;exact cY (S':=dD (none,0,[])::dD (none,0,[])::.blk b9 133 (aH { qA cf x y with mode:=4 } (yA none))::bH none 0 []::eM none 0 []::eP none 0 []::[]) rfl rfl rfl (aA.cons (.here _ _) (aA.cons (.here _ _) (aA.cons (.there _ (.there _ (.there _ (.there _ (.there _ (.there _ (.there _ (.here _ _)))))))) (aA.cons (.here _ _) (aA.cons (.here _ _) (aA.cons (.here _ _) (aA.nil _))))))) (.inr ⟨hc,b9,{ qA cf x y with mode:=4 },yA none,[],rfl,rfl,none,rfl,.inr ⟨rfl,rfl,rfl,.inr ⟨h,hw36⟩⟩⟩)
   ·rw[hw36]at iWi;refine aB;refine aFs ?_;refine aFr ?_;refine aFq ?_;refine mU ?_;refine mU ?_;exact cY (S':=dD (none,0,[])::dD (none,0,[])::.blk b9 133 (aH (qA cf x y) (yA (some ⟨K.g,0,none⟩)))::bH none 0 []::eM none 0 []::eP none 0 []::K.H (xZ 8)) rfl rfl rfl (aA.cons (.here _ _) (aA.cons (.here _ _) (aA.cons (.there _ (.there _ (.there _ (.there _ (.there _ (.there _ (.there _ (.here _ _)))))))) (aA.cons (.here _ _) (aA.cons (.here _ _) (aA.cons (.here _ _) (aA.cons (.here _ _) (aA.cons (.here _ _) (aA.cons (.here _ _) (aA.cons (.here _ _) (aA.nil _))))))))))) (.inr ⟨hc,b9,qA cf x y,yA (some ⟨K.g,0,none⟩),_,rfl,rfl,_,rfl,.inl ⟨rfl,h,hw36,K,hys,hrm,rfl,rfl⟩⟩)
 ·have iN:∀w0 W H t u a b,MS prog w0 W H (.binOp .neq t a b u) [.int .i64 (oR cf),.int .i64 0] (.bool true) True:=fun _ _ _ _ _ _ _=>cD inferInstance trivial (congrArg Value.bool (by simpa using hc));refine aB;exact cY rfl rfl rfl (.nil _) (.inl ⟨hc,rfl,rfl⟩)
theorem aWp{c:dF}{x y:Int}(hc:oR c=0)(hxy:bG .i64 x∧bG .i64 y):cS { qA c x y with mode:=4 } 0:=by have h0:=aLt (x:=0) (y:=0) hc od;exact⟨h0.cf,h0.ln,h0.p,h0.w,⟨by show (0:Int)≤4;decide,by show (4:Int)≤4;decide⟩,hxy,fun e=>absurd e (by show ¬fG 4=true;decide),h0.b,h0.bn,h0.tr,h0.seq,h0.time,h0.len,h0.dl⟩
theorem aWs{ys f:List Int}{cf:dF}{x y:Int}{s0:aK}{a:bQ}{T:List HE}{ptr:Option Addr}(hc:oR cf=0)(hxy:bG .i64 x∧bG .i64 y)(hF:jS ys f 8)(ha:a=⟨ptr,none,0,none,0,none,0,none,0,none,0⟩)
  (h : (s0 = qA cf x y ∧ rJ ys 0 ∧ kT x y = true ∧ ∃ K : eH, K.ys = ys ∧ K.room = 8 ∧ ptr = some ⟨K.g, 0, none⟩ ∧ T = K.H (xZ 8)) ∨
   (s0 = { qA cf x y with mode := 4 } ∧ ptr = none ∧ T = [] ∧ ((∃ code, code ≠ 0 ∧ rJ ys code) ∨ (rJ ys 0 ∧ kT x y = false)))) : NvI ys f 0 0 s0 a [] (none, 0, []) (none, 0, []) T := by
 subst ha;rcases h with⟨rfl,-,hw,K,hy,hr,rfl,rfl⟩ | ⟨rfl,rfl,rfl,-⟩
 ·exact⟨aLt hc hw,fun _=>hw,rfl,.inr (.inr rfl),.inr (.inr rfl),.inr ⟨K,xZ 8,hy,rfl,by rw[hy,hr];exact hF,by rw[hr];exact aWq od,rfl⟩⟩
 ·exact⟨aWp hc hxy,fun h=>absurd rfl h,rfl,.inr (.inr rfl),.inr (.inr rfl),.inl ⟨rfl,rfl,rfl⟩⟩
theorem aQt(W H cell:Nat)(Af:Option Addr)(cf:Nat)(f:List Int)(ox oy:Int)(w:World)(hr:bP w (bB []) Af f.length cf 1 (aD .i16 f))(hW:2≤W∧W≤256∧2≤H∧H≤256∧1≤cell∧cell≤1000)(hz:f.length=W*H)(hi:fD f)(hox:bG .i32 ox)(hoy:bG .i32 oy):
  aF prog 13 [.agg #[.int .i64 W,.int .i64 H,.slice Af f.length cf,.int .i64 cell,.int .i32 ox,.int .i32 oy]] [] w (fun v S'=>∃A c,v=.slice A (fK W H cell ox oy f).length c∧S'=[.row (.slice A (fK W H cell ox oy f).length c) 5 1 (fK W H cell ox oy f).length (aD .u8 (fK W H cell ox oy f))]):=by
 refine aJ func13 rfl ntmps13 rfl ⟨aE,.nil⟩ (fun n=>?_);simp only[aG];refine aB;refine lf rfl rfl rfl (S:=[]) (fun w hw ho=>aSj W H cell Af cf f ox oy w ⟨hr.h.go hw (aC.nil _)⟩ hW hz hi hox hoy) ?_;rintro v S' ⟨Ab,cb,rfl,rfl⟩;generalize fK W H cell ox oy f=bb at *;refine aB;exact aM rfl rfl aA.au ⟨_,_,rfl,rfl⟩
