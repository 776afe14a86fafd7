import Derived.Test.YthajpemlpmlefaaGreatP50
import Derived.Test.YthajpemlpmlefaaGreatP51
import Derived.Test.YthajpemlpmlefaaGreatP52
set_option maxHeartbeats 512000000
set_option maxRecDepth 4000
set_option linter.unusedVariables false
set_option linter.unusedSimpArgs false
namespace Go.Proofs.YthajpemlpmlefaaGreat
open Go.RowKit
abbrev Plc:=Option Addr×Nat×List Int
def GdR(K:CaT)(f:List Int)(g:Nat)(a:NvA)(og on:Plc)(b:Int)(s':NavS)(S':List HE):Prop:=∃c1 a2 ds2 Ax cx xs,CaOk K.ys f K.room c1 b∧(a2.ptr=a.ptr∧a2.Ai=a.Ai∧a2.ci=a.ci∧a2.Am=a.Am∧a2.cm=a.cm)∧ds2.length=s'.deeds.length ∧
 (((a2.Ag,a2.cg,s'.g.p):Plc)=(Ax,cx,xs)∨((a2.Ag,a2.cg,s'.g.p):Plc)=og)∧(((a2.An,a2.cn,s'.next.p):Plc)=(Ax,cx,xs)∨((a2.An,a2.cn,s'.next.p):Plc)=on) ∧
 S'=.row (.slice Ax xs.length cx) 2 1 xs.length (ints .i64 xs)::.blk g 109 (navE s' a2)::dedH a2.Ad a2.cd ds2::K.H c1
theorem weigh_t(K:CaT)(c0:CaV)(f:List Int)(g k:Nat)(s:NavS)(a:NvA)(ds:List DedX)(z b:Int)(w:World)(hown:Own (.blk g 109 (navE s a)::dedH a.Ad a.cd ds::K.H c0) w)(hN:NavOk s k)(hk:k≤16777215)(hh:holdsN s.mode=true)(hp:a.ptr=some ⟨K.g,0,none⟩)(hF:CaF K.ys f K.room)(hk0:CaOk K.ys f K.room c0 b)(hb:b≤300000000000000000)
  (hz : -4294967296≤z∧z≤4294967296) (hd:ds.length=s.deeds.length) (hr:RoA w (blocks (.blk g 109 (navE s a)::dedH a.Ad a.cd ds::K.H c0)) a.Ag s.g.p.length a.cg 1 (ints .i64 s.g.p)):
  Does Tryz.prog 78 [.pointer (some ⟨g,0,none⟩),.int .i64 z] (.blk g 109 (navE s a)::dedH a.Ad a.cd ds::K.H c0) w
   (fun v S'=>v=.agg (inpE (weighN (wY K.ys) (hY K.ys) f s z).2).toArray∧WeR K f g a (a.Ag,a.cg,s.g.p) (b+20000) (weighN (wY K.ys) (hY K.ys) f s z).1 S'):=by
 cases hwo:weightsN (wY K.ys) (hY K.ys) f s.g s.cf.noi z with
 | none=>exact weigh_no K c0 f g k s a ds z b w hown hN hk hh hp hF hk0 hb hz hd hr hwo
 | some l=>exact weigh_yes K c0 f g k s a ds z b w hown hN hk hh hp hF hk0 hb hz hd hr l hwo
theorem weighN_lost{W H:Nat}{f:List Int}(s:NavS)(z:Int):(weighN W H f s z).2.lost=false:=by
 unfold weighN
 split<;>rfl
theorem lookN_keep{W H:Nat}{f:List Int}(s:NavS):(lookN W H f s).1.g=s.g∧(lookN W H f s).1.deeds=s.deeds:=by
 unfold lookN
 dsimp only
 split<;>exact⟨rfl,rfl⟩
theorem weighN_next{W H:Nat}{f:List Int}(s:NavS)(z:Int):(weighN W H f s z).1.next=s.next:=by
 unfold weighN
 split
 ·rfl
 ·exact weighN_ok.layN_next 4 _
attribute [local irreducible] OJ J HdJ Code.wpIn wpListIn Oper.wpIn bodyPost CallsIn Does
theorem ground_t(K:CaT)(c0:CaV)(f:List Int)(g k:Nat)(s:NavS)(a:NvA)(ds:List DedX)(z b:Int)(w:World)(hown:Own (.blk g 109 (navE s a)::dedH a.Ad a.cd ds::K.H c0) w)(hN:NavOk s k)(hk:k≤16777215)(hp:a.ptr=some ⟨K.g,0,none⟩)(hF:CaF K.ys f K.room)(hk0:CaOk K.ys f K.room c0 b)(hb:b≤300000000000000000)
  (hz : -4294967296≤z∧z≤4294967296) (hd:ds.length=s.deeds.length) (hr:RoA w (blocks (.blk g 109 (navE s a)::dedH a.Ad a.cd ds::K.H c0)) a.Ag s.g.p.length a.cg 1 (ints .i64 s.g.p)) :
  Does Tryz.prog 35 [.pointer (some ⟨g,0,none⟩),.int .i64 z] (.blk g 109 (navE s a)::dedH a.Ad a.cd ds::K.H c0) w
   (fun v S'=>v=.agg (inpE (groundN (wY K.ys) (hY K.ys) f s z).2).toArray∧GdR K f g a (a.Ag,a.cg,s.g.p) (a.An,a.cn,s.next.p) (b+6000000) (groundN (wY K.ys) (hY K.ys) f s z).1 S'):=by
 have i1:=nv_p hN.nvl
 have i2:=nv_w hN.nvl
 obtain⟨hc1,hc2,hc3,hc4,hc5,hc6,hc7⟩:=cnfC_ok hN.cf
 have h1:NavOk { s with p:=pAdd s.p z } k:=⟨hN.cf,hN.ln,hN.p.add hz,hN.w,hN.mode,hN.xy,hN.g,hN.b,hN.bn,hN.tr,hN.seq,hN.time,hN.len,hN.dl⟩
 have hA:=fun w ho=>n_padd g s a w z ho hN.p
 have hLn:=fun w ho=>n_plen g { s with p:=pAdd s.p z } a w ho h1.p
 have hLk:=fun w ho=>look_t K c0 f g k { s with p:=pAdd s.p z } a b w ho h1 (by omega) hp hF hk0 (by omega)
 have hWg:=fun hh w ho hr=>weigh_t K c0 f g k s a ds z b w ho hN hk hh hp hF hk0 (by omega) hz hd hr
 have hG:groundN (wY K.ys) (hY K.ys) f s z=if s.mode=1 then (if s.cf.need≤(pAdd s.p z).n then lookN (wY K.ys) (hY K.ys) f { s with p:=pAdd s.p z }else ({ s with p:=pAdd s.p z },inp0))else if holdsN s.mode then ((weighN (wY K.ys) (hY K.ys) f s z).1,{ (weighN (wY K.ys) (hY K.ys) f s z).2 with lost:=(weighN (wY K.ys) (hY K.ys) f s z).2.lost||wLost (weighN (wY K.ys) (hY K.ys) f s z).1.cf (weighN (wY K.ys) (hY K.ys) f s z).1.w,over:=overN (weighN (wY K.ys) (hY K.ys) f s z).1 })else (s,inp0):=rfl
 rw[hG]
 clear hG
 refine does_of Tryz.func35 rfl Tryz.ntmps35 rfl hown (fun _=>?_)
 simp only[slots]
 by_cases hm:s.mode=1
 ·rw[if_pos hm]
  clear hWg
  have iE:∀w0 W H t u a b,MS Tryz.prog w0 W H (.binOp .eql t a b u) [.int .i64 s.mode,.int .i64 1] (.bool true) True:=fun _ _ _ _ _ _ _=>msM inferInstance trivial (congrArg Value.bool (by rw[hm];rfl))
  refine z_tas
  rename_i b4
  refine lf rfl rfl rfl (S:=[.blk g 109 (navE s a)]) (fun w hw ho=>hA w ho) ?_
  rintro v S' ⟨bb,rfl,rfl⟩
  have i5:=nv_p h1.nvl
  have h1n:NvL ({ s with p:=pAdd s.p z }:NavS):=h1.nvl
  generalize hs1:({ s with p:=pAdd s.p z }:NavS)=s1 at *
  have e1:(pAdd s.p z).n=s1.p.n:=by rw[← hs1]
  have e2:s.cf=s1.cf:=by rw[← hs1]
  have e3:s.g=s1.g∧s.next=s1.next∧s.deeds=s1.deeds:=by rw[← hs1];exact⟨rfl,rfl,rfl⟩
  rw[e1,e2]
  have i6:=nv_w h1n
  obtain⟨g1,g2,g3⟩:=e3
  by_cases hnd:s1.cf.need≤s1.p.n
  ·rw[if_pos hnd]
   have hlk:=lookN_keep (W:=wY K.ys) (H:=hY K.ys) (f:=f) s1
   have iG1:∀w0 W H t u a b,MS Tryz.prog w0 W H (.binOp .geq t a b u) [.int .i64 (s1.p.n:Int),.int .i64 s1.cf.need] (.bool true) True:=fun _ _ _ _ _ _ _=>msM inferInstance trivial (congrArg Value.bool (by simp[hnd]))
   have iG2:∀w0 W H t u a b,LV Tryz.prog w0 W H (.binOp .geq t a b u) [.int .i64 (s1.p.n:Int),.int .i64 s1.cf.need] (.bool true) True:=fun _ _ _ _ _ _ _=>lvM inferInstance trivial (congrArg Value.bool (by simp[hnd]))
   refine z_tas
   refine c_drx [.blk g 109 (navE s1 a)] [true,true,true,false,true,true,true,true,true,false] [3,9] Sub.au rfl (by decide) (by decide +kernel) ?_
   repeat' (first|refine x_skip rfl rfl rfl ?_|(refine x_run rfl rfl rfl ?_ ?_;(next=>first|exact trivial|omega))|refine x_nil ?_)
   refine t_weakV ?_
   intro _
   all_goals refine z_gvx
   refine lf rfl rfl rfl (S:=[.blk g 109 (navE s1 a)]) (fun w hw ho=>hLn w ho) ?_
   rintro v S' ⟨rfl,rfl⟩
   all_goals refine z_gvx
   refine lf rfl rfl rfl (S:=.blk g 109 (navE s1 a)::K.H c0) (fun w hw ho=>hLk w ho) ?_
   generalize lookN (wY K.ys) (hY K.ys) f s1=lr at *
   obtain⟨s2,ii⟩:=lr
   obtain⟨b1,b2,b3,b5,b6,b7,b8,b9,b10⟩:=ii
   dsimp only at hlk ⊢
   rintro v S' ⟨rfl,c1,hk1,A2,c2,R,⟨rfl,rfl,rfl,hnx⟩|rfl,rfl⟩
   ·simp only[List.cons_append,List.nil_append]
    refine j_nil (e:=2) (size:=1) ?_
    refine z_tas
    refine j_outK (S':=.row (.slice none 0 0) 2 1 0 []::.blk g 109 (navE s2 a)::dedH a.Ad a.cd ds::K.H c1) Sub.au ?_
    refine z_rk
    exact⟨rfl,c1,a,ds,none,0,[],hk1,⟨rfl,rfl,rfl,rfl,rfl⟩,by rw[hlk.2,← g3];exact hd,.inr (by rw[hlk.1,← g1]),.inr (by rw[hnx,← g2]),rfl⟩
   ·simp only[List.cons_append,List.nil_append]
    refine z_tas
    refine j_outK (S':=.row (.slice A2 s2.next.p.length c2) 2 1 s2.next.p.length (ints .i64 s2.next.p)::.blk g 109 (navE s2 { a with An:=A2,cn:=c2 })::dedH a.Ad a.cd ds::K.H c1) Sub.au ?_
    refine z_rk
    exact⟨rfl,c1,{ a with An:=A2,cn:=c2 },ds,A2,c2,s2.next.p,hk1,⟨rfl,rfl,rfl,rfl,rfl⟩,by rw[hlk.2,← g3];exact hd,.inr (by rw[hlk.1,← g1]),.inl rfl,rfl⟩
  ·rw[if_neg hnd]
   have iG1:∀w0 W H t u a b,MS Tryz.prog w0 W H (.binOp .geq t a b u) [.int .i64 (s1.p.n:Int),.int .i64 s1.cf.need] (.bool false) True:=fun _ _ _ _ _ _ _=>msM inferInstance trivial (congrArg Value.bool (by simp[hnd]))
   have iG2:∀w0 W H t u a b,LV Tryz.prog w0 W H (.binOp .geq t a b u) [.int .i64 (s1.p.n:Int),.int .i64 s1.cf.need] (.bool false) True:=fun _ _ _ _ _ _ _=>lvM inferInstance trivial (congrArg Value.bool (by simp[hnd]))
   refine z_tas
   refine c_drx [.blk g 109 (navE s1 a)] [true,true,true,false,true,true,true,true,true,false] [3,9] Sub.au rfl (by decide) (by decide +kernel) ?_
   repeat' (first|refine x_skip rfl rfl rfl ?_|(refine x_run rfl rfl rfl ?_ ?_;(next=>first|exact trivial|omega))|refine x_nil ?_)
   refine t_weakV ?_
   intro _
   all_goals refine z_gvx
   refine lf rfl rfl rfl (S:=[.blk g 109 (navE s1 a)]) (fun w hw ho=>hLn w ho) ?_
   rintro v S' ⟨rfl,rfl⟩
   all_goals refine z_gvx
   refine j_nil (e:=2) (size:=1) ?_
   refine j_outK (S':=.row (.slice none 0 0) 2 1 0 []::.blk g 109 (navE s1 a)::dedH a.Ad a.cd ds::K.H c0) Sub.au ?_
   refine z_rk
   exact⟨rfl,c0,a,ds,none,0,[],hk0.mono (by omega),⟨rfl,rfl,rfl,rfl,rfl⟩,by rw[← g3];exact hd,.inr (by rw[← g1]),.inr (by rw[← g2]),rfl⟩
 ·rw[if_neg hm]
  clear hA hLn hLk
  have iE:∀w0 W H t u a b,MS Tryz.prog w0 W H (.binOp .eql t a b u) [.int .i64 s.mode,.int .i64 1] (.bool false) True:=fun _ _ _ _ _ _ _=>msM inferInstance trivial (congrArg Value.bool (by simpa using hm))
  have iH:=holds_cv s.mode
  by_cases hh:holdsN s.mode=true
  ·rw[if_pos hh]
   rw[decide_eq_true (of_decide_eq_true hh)]at iH
   obtain⟨r1,-,-,-⟩:=weighN_ok (W:=wY K.ys) (H:=hY K.ys) (f:=f) hN hh z (by omega)
   have hlo:=weighN_lost (W:=wY K.ys) (H:=hY K.ys) (f:=f) s z
   have hnx:=weighN_next (W:=wY K.ys) (H:=hY K.ys) (f:=f) s z
   refine z_tas
   rename_i b4
   refine lf rfl rfl rfl (S:=.blk g 109 (navE s a)::dedH a.Ad a.cd ds::K.H c0) (fun w hw ho=>hWg hh w ho ⟨hr.h.go hw Split.au⟩) ?_
   generalize weighN (wY K.ys) (hY K.ys) f s z=wr at *
   obtain⟨s2,ii⟩:=wr
   obtain⟨b1,b2,b3,b5,b6,b7,b8,b9,b10⟩:=ii
   dsimp only at hlo hnx r1 ⊢
   subst hlo
   rintro v S' ⟨rfl,c1,a2,ds2,Ax,cx,xs,hk1,⟨q1,q2,q3,q4,q5,q6,q7⟩,hd2,hpg,rfl⟩
   have j1:=nv_p r1.nvl
   have j2:=nv_w r1.nvl
   have hwt:=r1.wt (by omega)
   have iLs:CV Tryz.prog 41 [.agg (watT s2.cf s2.w []).toArray] (.bool (wLost s2.cf s2.w)) True:=⟨fun _ w=>wlost_any s2.cf s2.w w hwt⟩
   have hov:=fun w ho=>over_anyN g s2 a2 w ho r1.nvl r1.marks.2.2.2.2.1
   generalize wLost s2.cf s2.w=wl at *
   refine z_tas
   refine lf rfl rfl rfl (S:=[.blk g 109 (navE s2 a2)]) (fun w hw ho=>hov w ho) ?_
   rintro v S' ⟨rfl,rfl⟩
   refine z_tas
   refine j_outK (S':=.row (.slice Ax xs.length cx) 2 1 xs.length (ints .i64 xs)::.blk g 109 (navE s2 a2)::dedH a2.Ad a2.cd ds2::K.H c1) Sub.au ?_
   refine z_rk
   exact⟨rfl,c1,a2,ds2,Ax,cx,xs,hk1.mono (by omega),⟨q1,q4,q5,q6,q7⟩,hd2,hpg,.inr (by rw[q2,q3,hnx]),rfl⟩
  ·rw[if_neg hh]
   rw[decide_eq_false (fun h=>hh (decide_eq_true h))]at iH
   refine z_tas
   refine j_nil (e:=2) (size:=1) ?_
   refine j_outK (S':=.row (.slice none 0 0) 2 1 0 []::.blk g 109 (navE s a)::dedH a.Ad a.cd ds::K.H c0) Sub.au ?_
   refine z_rk
   exact⟨rfl,c0,a,ds,none,0,[],hk0.mono (by omega),⟨rfl,rfl,rfl,rfl,rfl⟩,hd,.inr rfl,.inr rfl,rfl⟩
end Go.Proofs.YthajpemlpmlefaaGreat
namespace Go.Proofs.YthajpemlpmlefaaGreat
open Go.RowKit
@[reducible] def rowX(x:Plc):HE:=.row (.slice x.1 x.2.2.length x.2.1) 2 1 x.2.2.length (ints .i64 x.2.2)
def In3(y x1 x2:Plc):Prop:=y=x1∨y=x2∨y=(none,0,[])
@[reducible] def NvH(g:Nat)(s:NavS)(a:NvA)(ds:List DedX)(x1 x2:Plc)(T:List HE):List HE:=rowX x1::rowX x2::.blk g 109 (navE s a)::dedH a.Ad a.cd ds::insH a.Ai a.ci s.ins::mdsH a.Am a.cm s.modes::T
def CaS(ys f:List Int)(s:NavS)(a:NvA)(b:Int)(T:List HE):Prop:=(s.mode=4∧a.ptr=none∧T=[])∨∃(K:CaT) (c:CaV),K.ys=ys∧a.ptr=some ⟨K.g,0,none⟩∧CaF K.ys f K.room∧CaOk K.ys f K.room c b∧T=K.H c
structure NvI(ys f:List Int)(k:Nat)(b:Int)(s:NavS)(a:NvA)(ds:List DedX)(x1 x2:Plc)(T:List HE):Prop where
 ok:NavOk s k
 near:s.mode≠4→within36 s.x s.y=true
 dl:ds.length=s.deeds.length
 g:In3 (a.Ag,a.cg,s.g.p) x1 x2
 n:In3 (a.An,a.cn,s.next.p) x1 x2
 ca:CaS ys f s a b T
theorem In3.ro{y x1 x2:Plc}(h:In3 y x1 x2){w0 w:World}{W:Nat→Prop}{H S R Q1 Q2:List HE}(hw:St w0 W H w)(hs:Split H S R)(h1:Has R (rowX x1) Q1)(h2:Has R (rowX x2) Q2):RoA w (blocks S) y.1 y.2.2.length y.2.1 1 (ints .i64 y.2.2):=by
 rcases h with rfl|rfl|rfl
 ·exact⟨Ro.row hw hs h1⟩
 ·exact⟨Ro.row hw hs h2⟩
 ·exact⟨Ro.nil _ _ _⟩
theorem pick2{gg nn x x1 x2:Plc}(hg:gg=x∨In3 gg x1 x2)(hn:nn=x∨In3 nn x1 x2):∃y1 y2:Plc,In3 gg y1 y2∧In3 nn y1 y2∧∀R:List HE,Sub (rowX y1::rowX y2::R) (rowX (none,0,[])::rowX (none,0,[])::rowX x::rowX x1::rowX x2::R):=by
 have key:∀(y:Plc),(y=x∨In3 y x1 x2)→y=(none,0,[])∨y=x∨y=x1∨y=x2:=by
  rintro y (h|h|h|h)
  ·exact .inr (.inl h)
  ·exact .inr (.inr (.inl h))
  ·exact .inr (.inr (.inr h))
  ·exact .inl h
 rcases key gg hg with e1|e1|e1|e1<;>rcases key nn hn with e2|e2|e2|e2
 ·exact⟨(none,0,[]),(none,0,[]),.inl e1,.inl e2,fun R=>.cons (.here _ _) (.cons (.here _ _) (.skip (.skip (.skip (.refl _) _) _) _))⟩
 ·exact⟨(none,0,[]),x,.inl e1,.inr (.inl e2),fun R=>.cons (.here _ _) (.cons (.there _ (.here _ _)) (.skip (.skip (.skip (.refl _) _) _) _))⟩
 ·exact⟨(none,0,[]),x1,.inl e1,.inr (.inl e2),fun R=>.cons (.here _ _) (.cons (.there _ (.there _ (.here _ _))) (.skip (.skip (.skip (.refl _) _) _) _))⟩
 ·exact⟨(none,0,[]),x2,.inl e1,.inr (.inl e2),fun R=>.cons (.here _ _) (.cons (.there _ (.there _ (.there _ (.here _ _)))) (.skip (.skip (.skip (.refl _) _) _) _))⟩
 ·exact⟨x,(none,0,[]),.inl e1,.inr (.inl e2),fun R=>.cons (.there _ (.there _ (.here _ _))) (.cons (.there _ (.here _ _)) (.skip (.skip (.skip (.refl _) _) _) _))⟩
 ·exact⟨x,(none,0,[]),.inl e1,.inl e2,fun R=>.cons (.there _ (.there _ (.here _ _))) (.cons (.there _ (.here _ _)) (.skip (.skip (.skip (.refl _) _) _) _))⟩
 ·exact⟨x,x1,.inl e1,.inr (.inl e2),fun R=>.cons (.there _ (.there _ (.here _ _))) (.cons (.there _ (.there _ (.here _ _))) (.skip (.skip (.skip (.refl _) _) _) _))⟩
 ·exact⟨x,x2,.inl e1,.inr (.inl e2),fun R=>.cons (.there _ (.there _ (.here _ _))) (.cons (.there _ (.there _ (.there _ (.here _ _)))) (.skip (.skip (.skip (.refl _) _) _) _))⟩
 ·exact⟨x1,(none,0,[]),.inl e1,.inr (.inl e2),fun R=>.cons (.there _ (.there _ (.there _ (.here _ _)))) (.cons (.there _ (.here _ _)) (.skip (.skip (.skip (.refl _) _) _) _))⟩
 ·exact⟨x1,x,.inl e1,.inr (.inl e2),fun R=>.cons (.there _ (.there _ (.there _ (.here _ _)))) (.cons (.there _ (.there _ (.here _ _))) (.skip (.skip (.skip (.refl _) _) _) _))⟩
 ·exact⟨x1,(none,0,[]),.inl e1,.inl e2,fun R=>.cons (.there _ (.there _ (.there _ (.here _ _)))) (.cons (.there _ (.here _ _)) (.skip (.skip (.skip (.refl _) _) _) _))⟩
 ·exact⟨x1,x2,.inl e1,.inr (.inl e2),fun R=>.cons (.there _ (.there _ (.there _ (.here _ _)))) (.cons (.there _ (.there _ (.there _ (.here _ _)))) (.skip (.skip (.skip (.refl _) _) _) _))⟩
 ·exact⟨x2,(none,0,[]),.inl e1,.inr (.inl e2),fun R=>.cons (.there _ (.there _ (.there _ (.there _ (.here _ _))))) (.cons (.there _ (.here _ _)) (.skip (.skip (.skip (.refl _) _) _) _))⟩
 ·exact⟨x2,x,.inl e1,.inr (.inl e2),fun R=>.cons (.there _ (.there _ (.there _ (.there _ (.here _ _))))) (.cons (.there _ (.there _ (.here _ _))) (.skip (.skip (.skip (.refl _) _) _) _))⟩
 ·exact⟨x2,x1,.inl e1,.inr (.inl e2),fun R=>.cons (.there _ (.there _ (.there _ (.there _ (.here _ _))))) (.cons (.there _ (.there _ (.there _ (.here _ _)))) (.skip (.skip (.skip (.refl _) _) _) _))⟩
 ·exact⟨x2,(none,0,[]),.inl e1,.inl e2,fun R=>.cons (.there _ (.there _ (.there _ (.there _ (.here _ _))))) (.cons (.there _ (.here _ _)) (.skip (.skip (.skip (.refl _) _) _) _))⟩
theorem In3.ro3{y x x1 x2:Plc}(h:y=x∨In3 y x1 x2){w0 w:World}{W:Nat→Prop}{H S R Q0 Q1 Q2:List HE}(hw:St w0 W H w)(hs:Split H S R)(h0:Has R (rowX x) Q0)(h1:Has R (rowX x1) Q1)(h2:Has R (rowX x2) Q2):RoA w (blocks S) y.1 y.2.2.length y.2.1 1 (ints .i64 y.2.2):=by
 rcases h with rfl|h
 ·exact⟨Ro.row hw hs h0⟩
 ·exact h.ro hw hs h1 h2
theorem settleN_next(s:NavS)(i:Inp)(say:Bool):(settleN s i say).1.next=s.next:=by
 rw[settleN_eq]
 have key:(stlN s i).next=s.next:=by
  unfold stlN
  dsimp only
  repeat' split
  all_goals rfl
 split
 ·exact key
 ·exact key
theorem CaS.of{ys f:List Int}{s:NavS}{a:NvA}{b:Int}{T:List HE}(h:CaS ys f s a b T)(hm:s.mode≠4):∃(K:CaT) (c:CaV),K.ys=ys∧a.ptr=some ⟨K.g,0,none⟩∧CaF K.ys f K.room∧CaOk K.ys f K.room c b∧T=K.H c:=by
 rcases h with⟨h,-⟩|h
 ·exact absurd h hm
 ·exact h
theorem CaS.mono{ys f:List Int}{s t:NavS}{a:NvA}{b c:Int}{T:List HE}(h:CaS ys f s a b T)(hm:t.mode=s.mode)(hb:b≤c):CaS ys f t a c T:=by
 rcases h with⟨h,h2⟩ | ⟨K,c0,h1,h2,h3,h4,h5⟩
 ·exact .inl ⟨by rw[hm];exact h,h2⟩
 ·exact .inr ⟨K,c0,h1,h2,h3,h4.mono hb,h5⟩
theorem moveN_next(s:NavS)(dx dy:Int):(moveN s dx dy).1.next=s.next∧(moveN s dx dy).2.clear=false:=by
 unfold moveN
 dsimp only
 split
 ·exact⟨rfl,rfl⟩
 ·repeat' split
  all_goals exact⟨rfl,rfl⟩
theorem NavOk.timed{s:NavS}{k:Nat}(h:NavOk s k){t:Int}(ht:InR .u32 t):NavOk { s with time:=t } k:=⟨h.cf,h.ln,h.p,h.w,h.mode,h.xy,h.g,h.b,h.bn,h.tr,h.seq,ht,h.len,h.dl⟩
def TkR(ys f:List Int)(k:Nat)(b:Int)(g:Nat)(r:NavS×List Frm)(v:Value)(S':List HE):Prop:=∃So a2 ds2 y1 y2 T2,OutR r.2 v So∧S'=So++NvH g r.1 a2 ds2 y1 y2 T2∧NvI ys f k b r.1 a2 ds2 y1 y2 T2
theorem j_nilX{N:Nat}{ds:List Deferred}{w0:World}{W:Nat→Prop}{σ:List (Nat×Value)}{H:List HE}{q:Act→World→Prop}(h:J N ds w0 W σ (rowX (none,0,[])::H) q):J N ds w0 W σ H q:=j_nil (e:=2) (size:=1) h
attribute [local irreducible] OJ J HdJ Code.wpIn wpListIn Oper.wpIn bodyPost CallsIn Does
theorem take_t(ys f:List Int)(g k:Nat)(s:NavS)(a:NvA)(ds:List DedX)(x1 x2:Plc)(T:List HE)(x:Frm)(b:Int)(w:World)(hown:Own (NvH g s a ds x1 x2 T) w)(hI:NvI ys f k b s a ds x1 x2 T)(hx:x.ok)(hk:k≤16777214)(hb:b≤200000000000000000):
  Does Tryz.prog 12 [.pointer (some ⟨g,0,none⟩),.agg (frmE x).toArray] (NvH g s a ds x1 x2 T) w (fun v S'=>TkR ys f (k+1) (b+6000000) g (takeN (wY ys) (hY ys) f s x) v S'):=by
 have hNear:=takeN_near (W:=wY ys) (H:=hY ys) (f:=f) hI.near hI.ok.mode x
 have hOk:=takeN_ok (W:=wY ys) (H:=hY ys) (f:=f) hI.ok hI.near hx (by omega)
 have hN:=hI.ok
 have i1:=nv_p hN.nvl
 have i2:=nv_w hN.nvl
 have hd:=hI.dl
 obtain⟨-,-,xt,xa,xb,-⟩:=hx
 have hxa : -2147483648≤x.a∧x.a≤2147483647:=xa
 have hxb : -2147483648≤x.b∧x.b≤2147483647:=xb
 by_cases hm:s.mode=4
 ·have hT:takeN (wY ys) (hY ys) f s x=tellN s:=by unfold takeN;rw[if_pos hm]
  rw[hT]at hNear hOk ⊢
  refine does_of Tryz.func12 rfl Tryz.ntmps12 rfl hown (fun _=>?_)
  simp only[slots]
  refine z_tas
  refine lfn (S:=[.blk g 109 (navE s a)]) rfl rfl (Split.cons (.there _ (.there _ (.there _ (.here _ _)))) (Split.nil _)) rfl (fun w hw ho=>tell_any g k s a w ho hN (by omega) (hI.g.ro hw (Split.cons (.there _ (.there _ (.there _ (.here _ _)))) (Split.nil _)) (by refine z_hs) (by refine z_hs))) ?_
  rintro v S' ⟨So,⟨A5,c5,rfl,rfl⟩,rfl⟩
  refine z_tas
  simp only[List.cons_append,List.nil_append]
  exact j_out1 (S':=.row (.slice A5 (tellN s).2.length c5) 50 6 (tellN s).2.length (flat frmE (tellN s).2)::NvH g (tellN s).1 a ds x1 x2 T) rfl rfl (Sub.appT (S:=[_,_,_,_,_,_,_]) (H:=[_,_,_,_,_,_,_,_]) T (Sub.cons (.here _ _) (Sub.cons (.there _ (.there _ (.here _ _))) (Sub.cons (.there _ (.there _ (.here _ _))) (Sub.cons (.here _ _) (Sub.cons (.there _ (.here _ _)) (Sub.cons (.there _ (.here _ _)) (Sub.cons (.there _ (.here _ _)) (Sub.nil _))))))))) ⟨[_],a,ds,x1,x2,T,⟨A5,c5,rfl,rfl⟩,rfl,⟨hOk,hNear,hd,hI.g,hI.n,hI.ca.mono rfl (by omega)⟩⟩
 ·obtain⟨K,c0,rfl,hp,hF,hk0,rfl⟩:=hI.ca.of hm
  obtain⟨t1,t2⟩:=hN.ln.take x.kind x.seq x.time (a:=x.a) (by omega)
  have hTk:=fun w ho=>n_take g s a w x ho hN.ln.1 (by omega)
  have hT0:takeN (wY K.ys) (hY K.ys) f s x=if (s.ln.take x.kind x.seq x.time x.a).2.2.2=true then settleN { (groundN (wY K.ys) (hY K.ys) f { s with ln:=(s.ln.take x.kind x.seq x.time x.a).1 } (s.ln.take x.kind x.seq x.time x.a).2.2.1).1 with time:=x.time } (groundN (wY K.ys) (hY K.ys) f { s with ln:=(s.ln.take x.kind x.seq x.time x.a).1 } (s.ln.take x.kind x.seq x.time x.a).2.2.1).2 true
    else if (s.ln.take x.kind x.seq x.time x.a).2.1≠6 then ({ s with ln:=(s.ln.take x.kind x.seq x.time x.a).1 },[])
    else settleN { (if x.kind=1 then moveN { s with ln:=(s.ln.take x.kind x.seq x.time x.a).1 } x.a x.b else if x.kind=5 then ({ s with ln:=(s.ln.take x.kind x.seq x.time x.a).1 },{ inp0 with start:=decide (x.a=1),stop:=decide (x.a=0) })else ({ s with ln:=(s.ln.take x.kind x.seq x.time x.a).1 },inp0)).1 with time:=x.time } (if x.kind=1 then moveN { s with ln:=(s.ln.take x.kind x.seq x.time x.a).1 } x.a x.b else if x.kind=5 then ({ s with ln:=(s.ln.take x.kind x.seq x.time x.a).1 },{ inp0 with start:=decide (x.a=1),stop:=decide (x.a=0) })else ({ s with ln:=(s.ln.take x.kind x.seq x.time x.a).1 },inp0)).2 (decide (x.kind=5∨x.kind=4)):=by
   unfold takeN;rw[if_neg hm]
  generalize s.ln.take x.kind x.seq x.time x.a=tk at *
  obtain⟨ln2,what,z,ok⟩:=tk
  dsimp only at t1 t2 hTk hT0
  have h1:NavOk { s with ln:=ln2 } k:=⟨hN.cf,t1,hN.p,hN.w,hN.mode,hN.xy,hN.g,hN.b,hN.bn,hN.tr,hN.seq,hN.time,hN.len,hN.dl⟩
  have hw1:within36 s.x s.y=true:=hI.near hm
  have hig:=hI.g
  have hin:=hI.n
  have hml:=hN.len
  obtain⟨s1,hs1⟩:∃y,({ s with ln:=ln2 }:NavS)=y:=⟨_,rfl⟩
  rw[hs1]at hT0 h1
  have e1:s1.deeds=s.deeds∧s1.g=s.g∧s1.next=s.next∧s1.ins=s.ins∧s1.modes=s.modes∧s1.mode=s.mode∧s1.x=s.x∧s1.y=s.y:=by rw[← hs1];exact⟨rfl,rfl,rfl,rfl,rfl,rfl,rfl,rfl⟩
  refine does_of Tryz.func12 rfl Tryz.ntmps12 rfl hown (fun _=>?_)
  simp only[slots]
  have iM4:∀w0 W H t u a b,MS Tryz.prog w0 W H (.binOp .eql t a b u) [.int .i64 s.mode,.int .i64 4] (.bool false) True:=fun _ _ _ _ _ _ _=>msM inferInstance trivial (congrArg Value.bool (by simpa using hm))
  refine z_tas
  rename_i b3
  refine c_joinE2 (X:=Unit) (fun _=>True) (fun _=>[(0,.pointer (some ⟨g,0,none⟩)),(3,.pointer (some ⟨b3,0,none⟩)),(5,.int .i64 what),(6,.int .i64 z),(7,.bool ok)])
   (fun _=>.blk b3 50 (frmE x)::rowX x1::rowX x2::.blk g 109 (navE s1 a)::dedH a.Ad a.cd ds::insH a.Ai a.ci s1.ins::mdsH a.Am a.cm s1.modes::K.H c0) ?_ ?_
  ·subst hs1
   refine c_drx [.blk b3 50 (frmE x)] [true,true,true,true,false,false,false,false,false,false,false,false] [4,5,6,7,8,9,10,11] Sub.au rfl (by decide) (by decide +kernel) ?_
   repeat' (first|refine x_skip rfl rfl rfl ?_|(refine x_run rfl rfl rfl ?_ ?_;(next=>first|exact trivial|omega))|refine x_nil ?_)
   refine t_weakV ?_
   intro _
   all_goals refine z_gvx
   all_goals refine lf rfl rfl rfl (S:=[.blk g 109 (navE s a)]) (fun w hw ho=>hTk w ho) ?_
   all_goals rintro v S' ⟨rfl,rfl⟩
   all_goals refine z_gvx
   all_goals exact c_round () trivial trivial ⟨rfl,rfl,rfl,rfl,rfl,trivial⟩ Sub.au
  ·rintro _ -
   have i3:=nv_p h1.nvl
   have i4:=nv_w h1.nvl
   refine c_seq ?_
   refine c_joinE2 (X:=Nat) (fun _=>True) (fun q=>[(0,.pointer (some ⟨g,0,none⟩)),(3,.pointer (some ⟨b3,0,none⟩)),(5,.int .i64 what),(6,.int .i64 z),(7,.bool ok),(8,.pointer (some ⟨q,0,none⟩))])
    (fun q=>.blk q 58 [.bool false,.bool false,.bool false,.bool false,.bool false,.bool false,.bool false,.bool false,.bool false]::.blk b3 50 (frmE x)::rowX x1::rowX x2::.blk g 109 (navE s1 a)::dedH a.Ad a.cd ds::insH a.Ai a.ci s1.ins::mdsH a.Am a.cm s1.modes::K.H c0) ?_ ?_
   ·refine z_tas
    rename_i q
    exact c_round q trivial trivial ⟨rfl,rfl,rfl,rfl,rfl,rfl,trivial⟩ Sub.au
   rintro b8 -
   obtain⟨d1,d2,d3,d4,d5,d6,d7,d8⟩:=e1
   have hig1:In3 (a.Ag,a.cg,s1.g.p) x1 x2:=by rw[d2];exact hig
   have hin1:In3 (a.An,a.cn,s1.next.p) x1 x2:=by rw[d3];exact hin
   have hd1:ds.length=s1.deeds.length:=by rw[d1];exact hd
   have hw2:within36 s1.x s1.y=true:=by rw[d7,d8];exact hw1
   refine c_seq ?_
   refine c_block ?_
   refine c_joinL (X:=NavS×Inp×NvA×List DedX×Plc×CaV)
    (fun q=>takeN (wY K.ys) (hY K.ys) f s x=settleN { q.1 with time:=x.time } q.2.1 (ok||decide (x.kind=5∨x.kind=4))∧NavOk q.1 (k+1)∧(q.1.ins=s1.ins∧q.1.modes=s1.modes)∧(q.2.1.clear=true→GrdOk q.1.next∧FarG q.1.next 0)∧q.2.2.1.ptr=a.ptr∧q.2.2.2.1.length=q.1.deeds.length ∧
     (((q.2.2.1.Ag,q.2.2.1.cg,q.1.g.p):Plc)=q.2.2.2.2.1∨In3 (q.2.2.1.Ag,q.2.2.1.cg,q.1.g.p) x1 x2)∧(((q.2.2.1.An,q.2.2.1.cn,q.1.next.p):Plc)=q.2.2.2.2.1∨In3 (q.2.2.1.An,q.2.2.1.cn,q.1.next.p) x1 x2)∧CaOk K.ys f K.room q.2.2.2.2.2 (b+6000000))
    (fun _=>[(0,.pointer (some ⟨g,0,none⟩)),(3,.pointer (some ⟨b3,0,none⟩)),(7,.bool ok),(8,.pointer (some ⟨b8,0,none⟩))])
    (fun q=>.blk b8 58 (inpE q.2.1)::.blk b3 50 (frmE x)::rowX q.2.2.2.2.1::rowX x1::rowX x2::.blk g 109 (navE q.1 q.2.2.1)::dedH q.2.2.1.Ad q.2.2.1.cd q.2.2.2.1::insH q.2.2.1.Ai q.2.2.1.ci q.1.ins::mdsH q.2.2.1.Am q.2.2.1.cm q.1.modes::K.H q.2.2.2.2.2) ?_ ?_
   ·cases ok
    ·rw[if_neg (by decide)]at hT0
     by_cases hwh:what=6
     ·rw[if_neg (Decidable.not_not.2 hwh)]at hT0
      have iW:∀w0 W H t u a b,MS Tryz.prog w0 W H (.binOp .neq t a b u) [.int .i64 what,.int .i64 6] (.bool false) True:=fun _ _ _ _ _ _ _=>msM inferInstance trivial (congrArg Value.bool (by simp[hwh]))
      by_cases hk1:x.kind=1
      ·rw[if_pos hk1]at hT0
       have iK:∀w0 W H t u a b,MS Tryz.prog w0 W H (.binOp .eql t a b u) [.int .i64 x.kind,.int .i64 1] (.bool true) True:=fun _ _ _ _ _ _ _=>msM inferInstance trivial (congrArg Value.bool (by simp[hk1]))
       obtain⟨m1,m2,m3⟩:=moveN_ok h1 (dx:=x.a) (dy:=x.b) ⟨hxa,hxb⟩ (by omega)
       obtain⟨m4,m5,-⟩:=moveN_same s1 x.a x.b
       obtain⟨m6,m7⟩:=moveN_next s1 x.a x.b
       have hMv:=fun w ho hr=>move_t g k s1 a ds x.a x.b w ho h1 (by omega) hd1 ⟨by show (-9223372036854775808:Int)≤_∧_≤(9223372036854775807:Int);omega,by show (-9223372036854775808:Int)≤_∧_≤(9223372036854775807:Int);omega⟩ hr
       refine z_tas
       refine lf rfl rfl rfl (S:=[.blk g 109 (navE s1 a),dedH a.Ad a.cd ds]) (fun w hw ho=>hMv w ho (hig1.ro hw Split.au (by refine z_hs) (by refine z_hs))) ?_
       generalize moveN s1 x.a x.b=mr at *
       obtain⟨s2,ii⟩:=mr
       obtain⟨j1,j2,j3,j5,j6,j7,j8,j9,j10⟩:=ii
       dsimp only at hT0 m1 m2 m3 m4 m5 m6 m7 ⊢
       subst m7
       rintro v S' ⟨rfl,a2,ds2,R,⟨p1,p2,p3,p4,p5,p6,p7⟩,hd2,⟨rfl,p8,p9,p10⟩|rfl,rfl⟩
       ·simp only[List.cons_append,List.nil_append]
        refine j_nilX ?_
        rw[← m4,← m5,← p4,← p5,← p6,← p7]
        refine z_tas
        exact c_round (s2,⟨j1,j2,j3,false,j6,j7,j8,j9,j10⟩,a2,ds2,(none,0,[]),c0) ⟨hT0,m1,⟨rfl,rfl⟩,fun h=>(by cases h),p1,hd2,.inr (by rw[p8,p9,p10];exact hig1),.inr (by rw[p2,p3,m6];exact hin1),hk0.mono (by omega)⟩ trivial ⟨rfl,rfl,rfl,rfl,trivial⟩ Sub.au
       ·simp only[List.cons_append,List.nil_append]
        rw[← m4,← m5,← p4,← p5,← p6,← p7]
        refine z_tas
        exact c_round (s2,⟨j1,j2,j3,false,j6,j7,j8,j9,j10⟩,a2,ds2,(a2.Ag,a2.cg,s2.g.p),c0) ⟨hT0,m1,⟨rfl,rfl⟩,fun h=>(by cases h),p1,hd2,.inl rfl,.inr (by rw[p2,p3,m6];exact hin1),hk0.mono (by omega)⟩ trivial ⟨rfl,rfl,rfl,rfl,trivial⟩ Sub.au
      ·rw[if_neg hk1]at hT0
       have iK:∀w0 W H t u a b,MS Tryz.prog w0 W H (.binOp .eql t a b u) [.int .i64 x.kind,.int .i64 1] (.bool false) True:=fun _ _ _ _ _ _ _=>msM inferInstance trivial (congrArg Value.bool (by simpa using hk1))
       by_cases hk5:x.kind=5
       ·rw[if_pos hk5]at hT0
        have iK5:∀w0 W H t u a b,MS Tryz.prog w0 W H (.binOp .eql t a b u) [.int .i64 x.kind,.int .i64 5] (.bool true) True:=fun _ _ _ _ _ _ _=>msM inferInstance trivial (congrArg Value.bool (by simp[hk5]))
        have iA1:∀w0 W H t u a b,MS Tryz.prog w0 W H (.binOp .eql t a b u) [.int .i32 x.a,.int .i32 1] (.bool (decide (x.a=1))) True:=fun _ _ _ _ _ _ _=>msM inferInstance trivial rfl
        have iA0:∀w0 W H t u a b,MS Tryz.prog w0 W H (.binOp .eql t a b u) [.int .i32 x.a,.int .i32 0] (.bool (decide (x.a=0))) True:=fun _ _ _ _ _ _ _=>msM inferInstance trivial rfl
        refine j_nilX ?_
        refine z_tas
        exact c_round (s1,⟨decide (x.a=1),decide (x.a=0),false,false,false,false,false,false,false⟩,a,ds,(none,0,[]),c0) ⟨hT0,h1.up (Nat.le_succ k),⟨rfl,rfl⟩,fun h=>(by cases h),rfl,hd1,.inr hig1,.inr hin1,hk0.mono (by omega)⟩ trivial ⟨rfl,rfl,rfl,rfl,trivial⟩ Sub.au
       ·rw[if_neg hk5]at hT0
        have iK5:∀w0 W H t u a b,MS Tryz.prog w0 W H (.binOp .eql t a b u) [.int .i64 x.kind,.int .i64 5] (.bool false) True:=fun _ _ _ _ _ _ _=>msM inferInstance trivial (congrArg Value.bool (by simpa using hk5))
        refine j_nilX ?_
        refine z_tas
        exact c_round (s1,⟨false,false,false,false,false,false,false,false,false⟩,a,ds,(none,0,[]),c0) ⟨hT0,h1.up (Nat.le_succ k),⟨rfl,rfl⟩,fun h=>(by cases h),rfl,hd1,.inr hig1,.inr hin1,hk0.mono (by omega)⟩ trivial ⟨rfl,rfl,rfl,rfl,trivial⟩ Sub.au
     ·rw[if_pos hwh]at hT0
      have iW:∀w0 W H t u a b,MS Tryz.prog w0 W H (.binOp .neq t a b u) [.int .i64 what,.int .i64 6] (.bool true) True:=fun _ _ _ _ _ _ _=>msM inferInstance trivial (congrArg Value.bool (by simpa using hwh))
      rw[hT0]at hNear hOk ⊢
      refine z_tas
      refine j_nil (e:=50) (size:=6) ?_
      exact j_out1 (S':=.row (.slice none 0 0) 50 6 0 []::NvH g s1 a ds x1 x2 (K.H c0)) rfl rfl Sub.au ⟨[_],a,ds,x1,x2,K.H c0,⟨none,0,rfl,rfl⟩,rfl,⟨hOk,hNear,hd1,hig1,hin1,.inr ⟨K,c0,rfl,hp,hF,hk0.mono (by omega),rfl⟩⟩⟩
    ·rw[if_pos rfl]at hT0
     have hGr:=fun w ho hr=>ground_t K c0 f g k s1 a ds z b w ho h1 (by omega) hp hF hk0 (by omega) t2 hd1 hr
     obtain⟨r1,r2,r3,r4⟩:=groundN_ok (W:=wY K.ys) (H:=hY K.ys) (f:=f) h1 hw2 t2 (by omega)
     obtain⟨m4,m5,-⟩:=groundN_same (W:=wY K.ys) (H:=hY K.ys) (f:=f) s1 z
     refine z_tas
     refine lf rfl rfl rfl (S:=.blk g 109 (navE s1 a)::dedH a.Ad a.cd ds::K.H c0) (fun w hw ho=>hGr w ho (hig1.ro hw Split.au (by refine z_hs) (by refine z_hs))) ?_
     generalize groundN (wY K.ys) (hY K.ys) f s1 z=gr at *
     obtain⟨s2,ii⟩:=gr
     obtain⟨j1,j2,j3,j5,j6,j7,j8,j9,j10⟩:=ii
     dsimp only at hT0 r1 r2 r3 r4 m4 m5 ⊢
     rintro v S' ⟨rfl,c1,a2,ds2,Ax,cx,xs,hk1,⟨p1,p4,p5,p6,p7⟩,hd2,hpg,hpn,rfl⟩
     rw[← m4,← m5,← p4,← p5,← p6,← p7]
     refine z_tas
     exact c_round (s2,⟨j1,j2,j3,j5,j6,j7,j8,j9,j10⟩,a2,ds2,(Ax,cx,xs),c1) ⟨hT0,r1,⟨rfl,rfl⟩,r4,p1,hd2,hpg.imp id (fun h=>by rw[h];exact hig1),hpn.imp id (fun h=>by rw[h];exact hin1),hk1⟩ trivial ⟨rfl,rfl,rfl,rfl,trivial⟩ Sub.au
   ·rintro⟨s2,i2,a2,ds2,x3,c1⟩ ⟨hT,r1,⟨m4,m5⟩,r4,p1,hd2,hgg,hnn,hk1⟩
    dsimp only at hT r1 m4 m5 r4 p1 hd2 hgg hnn hk1 ⊢
    rw[hT]at hNear hOk ⊢
    have r1t:=r1.timed xt
    have i5:=nv_p r1.nvl
    have i6:=nv_w r1.nvl
    have hSt:=fun say w ho hr hx=>settle_t g (k+1) { s2 with time:=x.time } a2 ds2 i2 say w ho r1t (by omega) (by show s2.modes.length+1≤k+1;rw[m5,d5];omega) r4 hd2 hr hx
    have hnx:=fun say=>settleN_next { s2 with time:=x.time } i2 say
    obtain⟨b1,b2,b4,b5,b6,b7,b9,b10,b11⟩:=i2
    cases ok
    ·by_cases hk5:x.kind=5
     ·have hsay:(false||decide (x.kind=5∨x.kind=4))=true:=by simp[hk5]
      have iK5:∀w0 W H t u a b,MS Tryz.prog w0 W H (.binOp .eql t a b u) [.int .i64 x.kind,.int .i64 5] (.bool true) True:=fun _ _ _ _ _ _ _=>msM inferInstance trivial (congrArg Value.bool (by simp[hk5]))
      rw[hsay]at hNear hOk ⊢
      have hSf:=hSt true
      have hnf:=hnx true
      clear hSt hnx
      generalize settleN { s2 with time:=x.time } ⟨b1,b2,b4,b5,b6,b7,b9,b10,b11⟩ true=sr at *
      obtain⟨s4,out⟩:=sr
      dsimp only at hnf hNear hOk hSf ⊢
      refine z_tas
      refine lf rfl rfl rfl (S:=[.blk g 109 (navE { s2 with time:=x.time } a2),dedH a2.Ad a2.cd ds2,insH a2.Ai a2.ci s2.ins,mdsH a2.Am a2.cm s2.modes]) (fun w hw ho=>hSf w ho (In3.ro3 (y:=(a2.Ag,a2.cg,s2.g.p)) hgg hw Split.au (by refine z_hs) (by refine z_hs) (by refine z_hs)) (In3.ro3 (y:=(a2.An,a2.cn,s2.next.p)) hnn hw Split.au (by refine z_hs) (by refine z_hs) (by refine z_hs))) ?_
      rintro v S' ⟨So,S2,⟨A5,c5,rfl,rfl⟩,rfl,a3,ds3,⟨q1,q2,q3⟩,hd3,hgr,rfl⟩
      simp only[List.cons_append,List.nil_append]
      refine z_tas
      have hG:((a3.Ag,a3.cg,s4.g.p):Plc)=x3∨In3 (a3.Ag,a3.cg,s4.g.p) x1 x2:=by
       rcases hgr with⟨u1,u2,u3⟩ | ⟨u1,u2,u3⟩ | ⟨u1,u2,u3⟩
       ·rw[u1,u2,u3];exact hgg
       ·rw[u1,u2,u3];exact .inr (.inr (.inr rfl))
       ·rw[u1,u2,u3];exact hnn
      have hNn:((a3.An,a3.cn,s4.next.p):Plc)=x3∨In3 (a3.An,a3.cn,s4.next.p) x1 x2:=by rw[q2,q3,hnf];exact hnn
      obtain⟨y1,y2,hy1,hy2,hsub⟩:=pick2 hG hNn
      refine j_nilX ?_
      refine j_nilX ?_
      refine j_perm (H':=rowX (none,0,[])::rowX (none,0,[])::rowX x3::rowX x1::rowX x2::.row (.slice A5 out.length c5) 50 6 out.length (flat frmE out)::.blk g 109 (navE s4 a3)::dedH a3.Ad a3.cd ds3::insH a3.Ai a3.ci s4.ins::mdsH a3.Am a3.cm s4.modes::K.H c1) Sub.au ?_
      refine j_perm (hsub _) ?_
      exact j_out1 (S':=.row (.slice A5 out.length c5) 50 6 out.length (flat frmE out)::NvH g s4 a3 ds3 y1 y2 (K.H c1)) rfl rfl Sub.au ⟨[_],a3,ds3,y1,y2,K.H c1,⟨A5,c5,rfl,rfl⟩,rfl,⟨hOk,hNear,hd3,hy1,hy2,.inr ⟨K,c1,rfl,by rw[q1,p1];exact hp,hF,hk1,rfl⟩⟩⟩
     ·have iK5:∀w0 W H t u a b,MS Tryz.prog w0 W H (.binOp .eql t a b u) [.int .i64 x.kind,.int .i64 5] (.bool false) True:=fun _ _ _ _ _ _ _=>msM inferInstance trivial (congrArg Value.bool (by simpa using hk5))
      by_cases hk4:x.kind=4
      ·have hsay:(false||decide (x.kind=5∨x.kind=4))=true:=by simp[hk4]
       have iK4:∀w0 W H t u a b,MS Tryz.prog w0 W H (.binOp .eql t a b u) [.int .i64 x.kind,.int .i64 4] (.bool true) True:=fun _ _ _ _ _ _ _=>msM inferInstance trivial (congrArg Value.bool (by simp[hk4]))
       rw[hsay]at hNear hOk ⊢
       have hSf:=hSt true
       have hnf:=hnx true
       clear hSt hnx
       generalize settleN { s2 with time:=x.time } ⟨b1,b2,b4,b5,b6,b7,b9,b10,b11⟩ true=sr at *
       obtain⟨s4,out⟩:=sr
       dsimp only at hnf hNear hOk hSf ⊢
       refine z_tas
       refine lf rfl rfl rfl (S:=[.blk g 109 (navE { s2 with time:=x.time } a2),dedH a2.Ad a2.cd ds2,insH a2.Ai a2.ci s2.ins,mdsH a2.Am a2.cm s2.modes]) (fun w hw ho=>hSf w ho (In3.ro3 (y:=(a2.Ag,a2.cg,s2.g.p)) hgg hw Split.au (by refine z_hs) (by refine z_hs) (by refine z_hs)) (In3.ro3 (y:=(a2.An,a2.cn,s2.next.p)) hnn hw Split.au (by refine z_hs) (by refine z_hs) (by refine z_hs))) ?_
       rintro v S' ⟨So,S2,⟨A5,c5,rfl,rfl⟩,rfl,a3,ds3,⟨q1,q2,q3⟩,hd3,hgr,rfl⟩
       simp only[List.cons_append,List.nil_append]
       refine z_tas
       have hG:((a3.Ag,a3.cg,s4.g.p):Plc)=x3∨In3 (a3.Ag,a3.cg,s4.g.p) x1 x2:=by
        rcases hgr with⟨u1,u2,u3⟩ | ⟨u1,u2,u3⟩ | ⟨u1,u2,u3⟩
        ·rw[u1,u2,u3];exact hgg
        ·rw[u1,u2,u3];exact .inr (.inr (.inr rfl))
        ·rw[u1,u2,u3];exact hnn
       have hNn:((a3.An,a3.cn,s4.next.p):Plc)=x3∨In3 (a3.An,a3.cn,s4.next.p) x1 x2:=by rw[q2,q3,hnf];exact hnn
       obtain⟨y1,y2,hy1,hy2,hsub⟩:=pick2 hG hNn
       refine j_nilX ?_
       refine j_nilX ?_
       refine j_perm (H':=rowX (none,0,[])::rowX (none,0,[])::rowX x3::rowX x1::rowX x2::.row (.slice A5 out.length c5) 50 6 out.length (flat frmE out)::.blk g 109 (navE s4 a3)::dedH a3.Ad a3.cd ds3::insH a3.Ai a3.ci s4.ins::mdsH a3.Am a3.cm s4.modes::K.H c1) Sub.au ?_
       refine j_perm (hsub _) ?_
       exact j_out1 (S':=.row (.slice A5 out.length c5) 50 6 out.length (flat frmE out)::NvH g s4 a3 ds3 y1 y2 (K.H c1)) rfl rfl Sub.au ⟨[_],a3,ds3,y1,y2,K.H c1,⟨A5,c5,rfl,rfl⟩,rfl,⟨hOk,hNear,hd3,hy1,hy2,.inr ⟨K,c1,rfl,by rw[q1,p1];exact hp,hF,hk1,rfl⟩⟩⟩
      ·have hsay:(false||decide (x.kind=5∨x.kind=4))=false:=by simp[hk4,hk5]
       have iK4:∀w0 W H t u a b,MS Tryz.prog w0 W H (.binOp .eql t a b u) [.int .i64 x.kind,.int .i64 4] (.bool false) True:=fun _ _ _ _ _ _ _=>msM inferInstance trivial (congrArg Value.bool (by simpa using hk4))
       rw[hsay]at hNear hOk ⊢
       have hSf:=hSt false
       have hnf:=hnx false
       clear hSt hnx
       generalize settleN { s2 with time:=x.time } ⟨b1,b2,b4,b5,b6,b7,b9,b10,b11⟩ false=sr at *
       obtain⟨s4,out⟩:=sr
       dsimp only at hnf hNear hOk hSf ⊢
       refine z_tas
       refine lf rfl rfl rfl (S:=[.blk g 109 (navE { s2 with time:=x.time } a2),dedH a2.Ad a2.cd ds2,insH a2.Ai a2.ci s2.ins,mdsH a2.Am a2.cm s2.modes]) (fun w hw ho=>hSf w ho (In3.ro3 (y:=(a2.Ag,a2.cg,s2.g.p)) hgg hw Split.au (by refine z_hs) (by refine z_hs) (by refine z_hs)) (In3.ro3 (y:=(a2.An,a2.cn,s2.next.p)) hnn hw Split.au (by refine z_hs) (by refine z_hs) (by refine z_hs))) ?_
       rintro v S' ⟨So,S2,⟨A5,c5,rfl,rfl⟩,rfl,a3,ds3,⟨q1,q2,q3⟩,hd3,hgr,rfl⟩
       simp only[List.cons_append,List.nil_append]
       refine z_tas
       have hG:((a3.Ag,a3.cg,s4.g.p):Plc)=x3∨In3 (a3.Ag,a3.cg,s4.g.p) x1 x2:=by
        rcases hgr with⟨u1,u2,u3⟩ | ⟨u1,u2,u3⟩ | ⟨u1,u2,u3⟩
        ·rw[u1,u2,u3];exact hgg
        ·rw[u1,u2,u3];exact .inr (.inr (.inr rfl))
        ·rw[u1,u2,u3];exact hnn
       have hNn:((a3.An,a3.cn,s4.next.p):Plc)=x3∨In3 (a3.An,a3.cn,s4.next.p) x1 x2:=by rw[q2,q3,hnf];exact hnn
       obtain⟨y1,y2,hy1,hy2,hsub⟩:=pick2 hG hNn
       refine j_nilX ?_
       refine j_nilX ?_
       refine j_perm (H':=rowX (none,0,[])::rowX (none,0,[])::rowX x3::rowX x1::rowX x2::.row (.slice A5 out.length c5) 50 6 out.length (flat frmE out)::.blk g 109 (navE s4 a3)::dedH a3.Ad a3.cd ds3::insH a3.Ai a3.ci s4.ins::mdsH a3.Am a3.cm s4.modes::K.H c1) Sub.au ?_
       refine j_perm (hsub _) ?_
       exact j_out1 (S':=.row (.slice A5 out.length c5) 50 6 out.length (flat frmE out)::NvH g s4 a3 ds3 y1 y2 (K.H c1)) rfl rfl Sub.au ⟨[_],a3,ds3,y1,y2,K.H c1,⟨A5,c5,rfl,rfl⟩,rfl,⟨hOk,hNear,hd3,hy1,hy2,.inr ⟨K,c1,rfl,by rw[q1,p1];exact hp,hF,hk1,rfl⟩⟩⟩
    ·have hsay:(true||decide (x.kind=5∨x.kind=4))=true:=by simp
     rw[hsay]at hNear hOk ⊢
     have hSf:=hSt true
     have hnf:=hnx true
     clear hSt hnx
     generalize settleN { s2 with time:=x.time } ⟨b1,b2,b4,b5,b6,b7,b9,b10,b11⟩ true=sr at *
     obtain⟨s4,out⟩:=sr
     dsimp only at hnf hNear hOk hSf ⊢
     refine z_tas
     refine lf rfl rfl rfl (S:=[.blk g 109 (navE { s2 with time:=x.time } a2),dedH a2.Ad a2.cd ds2,insH a2.Ai a2.ci s2.ins,mdsH a2.Am a2.cm s2.modes]) (fun w hw ho=>hSf w ho (In3.ro3 (y:=(a2.Ag,a2.cg,s2.g.p)) hgg hw Split.au (by refine z_hs) (by refine z_hs) (by refine z_hs)) (In3.ro3 (y:=(a2.An,a2.cn,s2.next.p)) hnn hw Split.au (by refine z_hs) (by refine z_hs) (by refine z_hs))) ?_
     rintro v S' ⟨So,S2,⟨A5,c5,rfl,rfl⟩,rfl,a3,ds3,⟨q1,q2,q3⟩,hd3,hgr,rfl⟩
     simp only[List.cons_append,List.nil_append]
     refine z_tas
     have hG:((a3.Ag,a3.cg,s4.g.p):Plc)=x3∨In3 (a3.Ag,a3.cg,s4.g.p) x1 x2:=by
      rcases hgr with⟨u1,u2,u3⟩ | ⟨u1,u2,u3⟩ | ⟨u1,u2,u3⟩
      ·rw[u1,u2,u3];exact hgg
      ·rw[u1,u2,u3];exact .inr (.inr (.inr rfl))
      ·rw[u1,u2,u3];exact hnn
     have hNn:((a3.An,a3.cn,s4.next.p):Plc)=x3∨In3 (a3.An,a3.cn,s4.next.p) x1 x2:=by rw[q2,q3,hnf];exact hnn
     obtain⟨y1,y2,hy1,hy2,hsub⟩:=pick2 hG hNn
     refine j_nilX ?_
     refine j_nilX ?_
     refine j_perm (H':=rowX (none,0,[])::rowX (none,0,[])::rowX x3::rowX x1::rowX x2::.row (.slice A5 out.length c5) 50 6 out.length (flat frmE out)::.blk g 109 (navE s4 a3)::dedH a3.Ad a3.cd ds3::insH a3.Ai a3.ci s4.ins::mdsH a3.Am a3.cm s4.modes::K.H c1) Sub.au ?_
     refine j_perm (hsub _) ?_
     exact j_out1 (S':=.row (.slice A5 out.length c5) 50 6 out.length (flat frmE out)::NvH g s4 a3 ds3 y1 y2 (K.H c1)) rfl rfl Sub.au ⟨[_],a3,ds3,y1,y2,K.H c1,⟨A5,c5,rfl,rfl⟩,rfl,⟨hOk,hNear,hd3,hy1,hy2,.inr ⟨K,c1,rfl,by rw[q1,p1];exact hp,hF,hk1,rfl⟩⟩⟩
end Go.Proofs.YthajpemlpmlefaaGreat
namespace Go.Proofs.YthajpemlpmlefaaGreat
open Go.RowKit
@[reducible] def ln0:Ln:=⟨0,0,0,0,false,0,0,0,0,false,0,false,0,0,0,0,0,0,0,0⟩
@[reducible] def tl0:List Value:=[.bool false,.int .i64 0,.int .i64 0,.int .i64 0,.int .i64 0,.int .i64 0,.int .i64 0,.int .i64 0,.int .i64 0,.int .i64 0,.slice none 0 0,.int .i64 0,.int .i64 0,.int .i64 0,.int .i64 0,.int .i64 0,.slice none 0 0,.int .i64 0,.int .i64 0,.int .i64 0,.bool false,.bool false,.int .u16 0,.int .u32 0,.slice none 0 0,.slice none 0 0,.slice none 0 0]
def cnf0:Cnf:=⟨0,0,0,0,0,0,0,0,0,0,⟨0,0,0⟩,0,0,0,0,0,0,0,0,0,0⟩
def zN:List Value:=cnfE cnf0++(.pointer none::(lnK ln0++(z197++(zW0++tl0))))
def zNv:Value:=.agg zN.toArray
set_option maxRecDepth 100000 in
instance (priority:=3000):Inf Tryz.prog 109 308 2496 zNv:=⟨Tryz.t109,by kernel_rfl,by kernel_rfl,rfl,rfl⟩
instance:ZC zNv zN:=⟨rfl⟩
def NnR(ys:List Int)(cf:Cnf)(x y:Int)(v:Value)(S':List HE):Prop :=
 (cnfC cf≠0∧v=.tuple #[.pointer none,.int .i64 (cnfC cf)]∧S'=[]) ∨
 (cnfC cf=0∧∃(g:Nat) (s0:NavS) (a:NvA) (T:List HE),v=.tuple #[.pointer (some ⟨g,0,none⟩),.int .i64 0]∧S'=NvH g s0 a [] (none,0,[]) (none,0,[]) T∧(∃ptr,a=⟨ptr,none,0,none,0,none,0,none,0,none,0⟩ ∧
  ((s0 = newN cf x y ∧ GetC ys 0 ∧ within36 x y = true ∧ ∃ K : CaT, K.ys = ys ∧ K.room = 8 ∧ ptr = some ⟨K.g, 0, none⟩ ∧ T = K.H (newV 8)) ∨
   (s0 = { newN cf x y with mode := 4 } ∧ ptr = none ∧ T = [] ∧ ((∃ code, code ≠ 0 ∧ GetC ys code) ∨ (GetC ys 0 ∧ within36 x y = false))))))
theorem j_nilD{N:Nat}{ds:List Deferred}{w0:World}{W:Nat→Prop}{σ:List (Nat×Value)}{H:List HE}{q:Act→World→Prop}(h:J N ds w0 W σ (dedH none 0 []::H) q):J N ds w0 W σ H q:=j_nil (e:=173) (size:=16) h
theorem j_nilI{N:Nat}{ds:List Deferred}{w0:World}{W:Nat→Prop}{σ:List (Nat×Value)}{H:List HE}{q:Act→World→Prop}(h:J N ds w0 W σ (insH none 0 []::H) q):J N ds w0 W σ H q:=j_nil (e:=58) (size:=9) h
theorem j_nilM{N:Nat}{ds:List Deferred}{w0:World}{W:Nat→Prop}{σ:List (Nat×Value)}{H:List HE}{q:Act→World→Prop}(h:J N ds w0 W σ (mdsH none 0 []::H) q):J N ds w0 W σ H q:=j_nil (e:=3) (size:=1) h
theorem rules_b{c:Cnf}(h:RulesOk c):rulesOk c.age c.jump c.throw c.rmost=true:=by
 unfold RulesOk at h
 unfold rulesOk
 simp
 omega
@[reducible] def nvA0(ptr:Option Addr):NvA:=⟨ptr,none,0,none,0,none,0,none,0,none,0⟩
attribute [local irreducible] OJ J HdJ Code.wpIn wpListIn Oper.wpIn bodyPost CallsIn Does
instance newL_cv(c:Cnf):CV Tryz.prog 44 [.agg (rulE c).toArray] (.tuple #[.agg (lnE (Ln.new c.age c.jump c.throw c.rmost)).toArray,.int .i64 0]) (RulesOk c):=⟨fun h w=>does_below (new_yes c.age c.jump c.throw c.rmost w (rules_b h))⟩
theorem nnew_c(A:Option Addr)(c:Nat)(ys:List Int)(cf:Cnf)(x y:Int)(w:World)(hr:RoA w (blocks []) A ys.length c 1 (ints .u8 ys))(hu:U8s ys)(hm:ys.length<100000000):
  Does Tryz.prog 18 [.slice A ys.length c,.agg (cnfE cf).toArray,.agg #[.int .i64 x,.int .i64 y]] [] w (NnR ys cf x y):=by
 have iC:=navcheck_cv cf
 refine does_of Tryz.func18 rfl Tryz.ntmps18 rfl ⟨by simp,.nil⟩ (fun n=>?_)
 simp only[slots]
 by_cases hc:cnfC cf=0
 ·rw[hc]at iC
  obtain⟨hc1,hc2,hc3,hc4,hc5,hc6,hc7⟩:=cnfC_ok hc
  have iL1:CV Tryz.prog 44 [.agg (rulE cf).toArray] (.tuple #[.agg (lnE (Ln.new cf.age cf.jump cf.throw cf.rmost)).toArray,.int .i64 0]) True:=⟨fun _ w=>(newL_cv cf).h hc1 w⟩
  have iW1:CV Tryz.prog 45 [.agg (mrkE cf).toArray] (.tuple #[.agg (watT cf wNew []).toArray,.int .i64 0]) True:=⟨fun _ w=>wnew_any cf w hc2⟩
  have iLd:Laid [(0,23),(23,1),(24,20),(44,197),(241,40),(281,2),(283,2),(285,1),(286,6),(292,6),(298,2),(300,1),(301,1),(302,1),(303,1),(304,1),(305,1),(306,1),(307,1)] zN [(0,.agg (cnfE cf).toArray),(6,.agg #[.int .i64 x,.int .i64 y]),(3,.agg (prE (pNew cf.gap)).toArray)] (cnK cf++(.pointer none::(lnK ln0++prT (pNew cf.gap) (watT cnf0 wNew (tlE (newN cf x y) (nvA0 none)))))):=⟨by kernel_rfl⟩
  have iP:LenE (flat smpE (pNew cf.gap).l) 192:=⟨by rw[flat_len,(pNew_ok cf.gap).len]⟩
  have iWn:LenE (ints .i64 wNew.l) 32:=⟨by rw[ints_len];exact(wNew_ok 0).len⟩
  refine z_tas
  rename_i b4 b5
  refine c_dv (0::1::2::3::4::5::6::7::[]) ?_;intro _
  refine z_gvs
  rename_i b9
  refine lf rfl rfl rfl (S:=[]) (fun w hw ho=>new_c A c ys 8 w ⟨hr.h.go hw (Split.nil _)⟩ hu hm (by decide)) ?_
  have iE0:∀w0 W H t u a b,MS Tryz.prog w0 W H (.binOp .neq t a b u) [.int .i64 0,.int .i64 0] (.bool false) True:=fun _ _ _ _ _ _ _=>msM inferInstance trivial rfl
  rintro v S' (⟨code,hne,rfl,rfl,⟨h,-⟩ | ⟨-,h⟩⟩ | ⟨-,h,K,hys,hrm,rfl,rfl⟩)
  ·exfalso;omega
  ·have iE:∀w0 W H t u a b,MS Tryz.prog w0 W H (.binOp .neq t a b u) [.int .i64 code,.int .i64 0] (.bool true) True:=fun _ _ _ _ _ _ _=>msM inferInstance trivial (congrArg Value.bool (by simpa using hne))
   refine z_tas
   refine j_nilM ?_
   refine j_nilI ?_
   refine j_nilD ?_
   refine j_nilX ?_
   refine j_nilX ?_
   exact j_out2 (S':=rowX (none,0,[])::rowX (none,0,[])::.blk b9 109 (navE { newN cf x y with mode:=4 } (nvA0 none))::dedH none 0 []::insH none 0 []::mdsH none 0 []::[]) rfl rfl rfl (Sub.cons (.here _ _) (Sub.cons (.here _ _) (Sub.cons (.there _ (.there _ (.there _ (.here _ _)))) (Sub.cons (.here _ _) (Sub.cons (.here _ _) (Sub.cons (.here _ _) (Sub.nil _))))))) (.inr ⟨hc,b9,{ newN cf x y with mode:=4 },nvA0 none,[],rfl,rfl,none,rfl,.inr ⟨rfl,rfl,rfl,.inl ⟨code,hne,h⟩⟩⟩)
  ·have hrm:K.room=8:=by omega
   rw[hrm]
   have iWi:=within_cv x y
   cases hw36:within36 x y
   ·rw[hw36]at iWi
    refine z_tas
    refine j_nilM ?_
    refine j_nilI ?_
    refine j_nilD ?_
    refine j_nilX ?_
    refine j_nilX ?_
    exact j_out2 (S':=rowX (none,0,[])::rowX (none,0,[])::.blk b9 109 (navE { newN cf x y with mode:=4 } (nvA0 none))::dedH none 0 []::insH none 0 []::mdsH none 0 []::[]) rfl rfl rfl (Sub.cons (.here _ _) (Sub.cons (.here _ _) (Sub.cons (.there _ (.there _ (.there _ (.there _ (.there _ (.there _ (.there _ (.here _ _)))))))) (Sub.cons (.here _ _) (Sub.cons (.here _ _) (Sub.cons (.here _ _) (Sub.nil _))))))) (.inr ⟨hc,b9,{ newN cf x y with mode:=4 },nvA0 none,[],rfl,rfl,none,rfl,.inr ⟨rfl,rfl,rfl,.inr ⟨h,hw36⟩⟩⟩)
   ·rw[hw36]at iWi
    refine z_tas
    refine j_nilM ?_
    refine j_nilI ?_
    refine j_nilD ?_
    refine j_nilX ?_
    refine j_nilX ?_
    exact j_out2 (S':=rowX (none,0,[])::rowX (none,0,[])::.blk b9 109 (navE (newN cf x y) (nvA0 (some ⟨K.g,0,none⟩)))::dedH none 0 []::insH none 0 []::mdsH none 0 []::K.H (newV 8)) rfl rfl rfl (Sub.cons (.here _ _) (Sub.cons (.here _ _) (Sub.cons (.there _ (.there _ (.there _ (.there _ (.there _ (.there _ (.there _ (.here _ _)))))))) (Sub.cons (.here _ _) (Sub.cons (.here _ _) (Sub.cons (.here _ _) (Sub.cons (.here _ _) (Sub.cons (.here _ _) (Sub.cons (.here _ _) (Sub.cons (.here _ _) (Sub.nil _))))))))))) (.inr ⟨hc,b9,newN cf x y,nvA0 (some ⟨K.g,0,none⟩),_,rfl,rfl,_,rfl,.inl ⟨rfl,h,hw36,K,hys,hrm,rfl,rfl⟩⟩)
 ·have iN:∀w0 W H t u a b,MS Tryz.prog w0 W H (.binOp .neq t a b u) [.int .i64 (cnfC cf),.int .i64 0] (.bool true) True:=fun _ _ _ _ _ _ _=>msM inferInstance trivial (congrArg Value.bool (by simpa using hc))
  refine z_tas
  exact j_out2 rfl rfl rfl (.nil _) (.inl ⟨hc,rfl,rfl⟩)
theorem newF_ok{c:Cnf}{x y:Int}(hc:cnfC c=0)(hxy:InR .i64 x∧InR .i64 y):NavOk { newN c x y with mode:=4 } 0:=by
 have h0:=newN_ok (x:=0) (y:=0) hc (by decide)
 exact⟨h0.cf,h0.ln,h0.p,h0.w,⟨by show (0:Int)≤4;decide,by show (4:Int)≤4;decide⟩,hxy,fun e=>absurd e (by show ¬holdsN 4=true;decide),h0.b,h0.bn,h0.tr,h0.seq,h0.time,h0.len,h0.dl⟩
theorem new_inv{ys f:List Int}{cf:Cnf}{x y:Int}{s0:NavS}{a:NvA}{T:List HE}{ptr:Option Addr}(hc:cnfC cf=0)(hxy:InR .i64 x∧InR .i64 y)(hF:CaF ys f 8)(ha:a=⟨ptr,none,0,none,0,none,0,none,0,none,0⟩)
  (h : (s0 = newN cf x y ∧ GetC ys 0 ∧ within36 x y = true ∧ ∃ K : CaT, K.ys = ys ∧ K.room = 8 ∧ ptr = some ⟨K.g, 0, none⟩ ∧ T = K.H (newV 8)) ∨
   (s0 = { newN cf x y with mode := 4 } ∧ ptr = none ∧ T = [] ∧ ((∃ code, code ≠ 0 ∧ GetC ys code) ∨ (GetC ys 0 ∧ within36 x y = false)))) : NvI ys f 0 0 s0 a [] (none, 0, []) (none, 0, []) T := by
 subst ha
 rcases h with⟨rfl,-,hw,K,hy,hr,rfl,rfl⟩ | ⟨rfl,rfl,rfl,-⟩
 ·exact⟨newN_ok hc hw,fun _=>hw,rfl,.inr (.inr rfl),.inr (.inr rfl),.inr ⟨K,newV 8,hy,rfl,by rw[hy,hr];exact hF,by rw[hr];exact newV_ok (by decide),rfl⟩⟩
 ·exact⟨newF_ok hc hxy,fun h=>absurd rfl h,rfl,.inr (.inr rfl),.inr (.inr rfl),.inl ⟨rfl,rfl,rfl⟩⟩
instance light_cv(A:Option Addr)(n c:Nat)(B:Option Addr)(m d:Nat):CV Tryz.prog 7 [.slice A n c,.slice B m d] (.int .i64 (if 1500<n∨60<m then 1 else 0)) True:=⟨fun _ w=>by
 refine does_of Tryz.func7 rfl Tryz.ntmps7 rfl ⟨by simp,.nil⟩ (fun _=>?_)
 simp only[slots]
 by_cases h:1500<n∨60<m
 ·rw[if_pos h]
  refine z_tas
  all_goals first
   | (exfalso;omega)
   | exact j_out1 rfl rfl (.nil _) ⟨rfl,rfl⟩
 ·rw[if_neg h]
  refine z_tas
  all_goals first
   | (exfalso;omega)
   | exact j_out1 rfl rfl (.nil _) ⟨rfl,rfl⟩⟩
theorem bytes27_any(W H cell:Nat)(Af:Option Addr)(cf:Nat)(f:List Int)(ox oy:Int)(w:World)(hr:RoA w (blocks []) Af f.length cf 1 (ints .i16 f))(hW:2≤W∧W≤256∧2≤H∧H≤256∧1≤cell∧cell≤1000)(hz:f.length=W*H)(hi:In16 f)(hox:InR .i32 ox)(hoy:InR .i32 oy):
  Does Tryz.prog 28 [.agg #[.int .i64 W,.int .i64 H,.slice Af f.length cf,.int .i64 cell,.int .i32 ox,.int .i32 oy]] [] w (fun v S'=>∃A c,v=.slice A (chartB W H cell ox oy f).length c∧S'=[.row (.slice A (chartB W H cell ox oy f).length c) 5 1 (chartB W H cell ox oy f).length (ints .u8 (chartB W H cell ox oy f))]):=by
 refine does_of Tryz.func28 rfl Tryz.ntmps28 rfl ⟨by simp,.nil⟩ (fun n=>?_)
 simp only[slots]
 refine z_tas
 refine lf rfl rfl rfl (S:=[]) (fun w hw ho=>cput_ok W H cell Af cf f ox oy w ⟨hr.h.go hw (Split.nil _)⟩ hW hz hi hox hoy) ?_
 rintro v S' ⟨Ab,cb,rfl,rfl⟩
 generalize chartB W H cell ox oy f=bb at *
 refine z_tas
 exact j_out1 rfl rfl Sub.au ⟨_,_,rfl,rfl⟩
instance conf_cv:CV Tryz.prog 29 [.int .u8 20,.int .u8 0,.int .u8 7,.int .u8 2] (.agg (cnfE c27).toArray) True:=⟨fun _ w=>by
 have iL:Laid [(0,4),(4,6),(10,3),(13,1),(14,1),(15,1),(16,1),(17,1),(18,1),(19,1),(20,1),(21,1),(22,1)] [.int .u32 0,.int .i64 0,.int .i64 0,.int .i64 0,.int .i64 0,.int .i64 0,.int .i64 0,.int .i64 0,.int .i64 0,.int .i64 0,.int .i64 0,.int .i64 0,.int .i64 0,.int .i64 0,.int .i64 0,.int .i64 0,.int .i64 0,.int .i64 0,.int .i64 0,.int .i64 0,.int .i64 0,.int .i64 0,.int .i64 0] [(0,.agg #[.int .u32 5000,.int .i64 1048576,.int .i64 0,.int .i64 1048576]),(1,.agg #[.int .i64 255,.int .i64 640,.int .i64 4,.int .i64 3,.int .i64 (1+7%30),.int .i64 (1+2%4)]),(2,.agg #[.int .i64 3000,.int .i64 400,.int .i64 5]),(3,.int .i64 2),(4,.int .i64 256),(5,.int .i64 64),(6,.int .i64 (2+0%5)),(7,.int .i64 0),(8,.int .i64 1),(9,.int .i64 1),(10,.int .i64 1),(11,.int .i64 500),(12,.int .i64 (20%86))] (cnfE c27):=⟨by rfl⟩
 have iO:Over [.int .u32 0,.int .i64 0,.int .i64 0,.int .i64 0,.int .i64 0,.int .i64 0,.int .i64 0,.int .i64 0,.int .i64 0,.int .i64 0,.int .i64 0,.int .i64 0,.int .i64 0,.int .i64 0,.int .i64 0,.int .i64 0,.int .i64 0,.int .i64 0,.int .i64 0,.int .i64 0,.int .i64 0,.int .i64 0,.int .i64 0] 0 (cnfE c27) (cnfE c27):=⟨by exact⟨rfl,by decide⟩⟩
 refine does_of Tryz.func29 rfl Tryz.ntmps29 rfl ⟨by simp,.nil⟩ (fun _=>?_)
 simp only[slots]
 refine z_tas
 refine z_ro
 exact⟨rfl,rfl⟩⟩
theorem made27_any(a b:Int)(ha:InR .u8 a)(hb:InR .u8 b)(A:Option Addr)(c:Nat)(z:List Int)(cf:Cnf)(hcf:cnfC cf=0)(x y:Int)(hxy:InR .i64 x∧InR .i64 y)(w:World)(hr:RoA w (blocks []) A z.length c 1 (ints .i16 z))(hz:∀x∈z,InR .i16 x)(hm:z.length<1000000):
  Does Tryz.prog 10 [.int .u8 a,.int .u8 b,.slice A z.length c,.agg (cnfE cf).toArray,.agg #[.int .i64 x,.int .i64 y]] [] w
   (fun v S'=>∃(g:Nat) (s0:NavS) (an:NvA) (T:List HE) (W H:Nat) (f:List Int) (Af:Option Addr) (cfl:Nat),v=.tuple #[.pointer (some ⟨g,0,none⟩),.agg #[.int .i64 W,.int .i64 H,.slice Af f.length cfl,.int .i64 30,.int .i32 0,.int .i32 0],.bool true] ∧
    S'=NvH g s0 an [] (none,0,[]) (none,0,[]) T∧NvI (chartB W H 30 0 0 f) f 0 0 s0 an [] (none,0,[]) (none,0,[]) T∧(s0=newN cf x y∨s0 = { newN cf x y with mode:=4 })):=by
 have ha1:0≤a∧a≤255:=ha
 have hb1:0≤b∧b≤255:=hb
 obtain⟨W,hW,hW1⟩:∃x:Nat,2+(10+a%29)%39=(x:Int)∧2≤x∧x≤40:=⟨(2+(10+a%29)%39).toNat,by omega,by omega⟩
 obtain⟨H,hH,hH1⟩:∃x:Nat,2+(10+b%29)%39=(x:Int)∧2≤x∧x≤40:=⟨(2+(10+b%29)%39).toNat,by omega,by omega⟩
 refine does_of Tryz.func10 rfl Tryz.ntmps10 rfl ⟨by simp,.nil⟩ (fun n=>?_)
 simp only[slots]
 refine z_tas
 refine lf rfl rfl rfl (S:=[]) (fun w hw ho=>made_any (10+a%29) (10+b%29) (by show (0:Int)≤_∧_≤(255:Int);omega) (by show (0:Int)≤_∧_≤(255:Int);omega) W H hW hH A c z 29 (by decide) 0 0 w ⟨hr.h.go hw (Split.nil _)⟩ hm) ?_
 rintro v S' ⟨Af,cfl,rfl,rfl⟩
 have hfl:=fieldF_len z (W*H)
 have hfi:=field_in16 hz (W*H)
 generalize fieldF z (W*H)=f at *
 rw[show (1+29%1000:Int)=((30:Nat):Int) by decide]
 have hcb:2≤W∧W≤256∧2≤H∧H≤256∧1≤30∧30≤1000:=by omega
 have hF:=caF_of (ox:=0) (oy:=0) hcb hfl hfi (by omega:1≤8∧8≤32)
 refine z_tas
 rename_i b8 b9 b11 b13
 refine c_drx [.blk b13 43 [.int .i64 W,.int .i64 H,.slice Af f.length cfl,.int .i64 (30:Nat),.int .i32 0,.int .i32 0],.blk b9 33 [.int .i64 x,.int .i64 y],.blk b8 31 (cnfE cf)] [true,false,true,true,false,false,false,false,false,false] [1,4,5,6,7,8,9] Sub.au rfl (by decide) (by decide +kernel) ?_
 repeat' (first|refine x_skip rfl rfl rfl ?_|(refine x_run rfl rfl rfl ?_ ?_;(next=>first|exact trivial|omega))|refine x_nil ?_)
 refine t_weakV ?_
 intro _
 all_goals refine z_gvx
 refine lf rfl rfl rfl (S:=[]) (fun w hw ho=>bytes27_any W H 30 Af cfl f 0 0 w ⟨Ro.row hw (Split.nil _) (by refine z_hs)⟩ hcb hfl hfi (by decide) (by decide)) ?_
 rintro v S' ⟨Ab,cb,rfl,rfl⟩
 have hu:=hF.u8
 have hln:=hF.len
 generalize hbb:chartB W H 30 0 0 f=bb at *
 all_goals refine z_gvx
 refine lf rfl rfl rfl (S:=[]) (fun w hw ho=>nnew_c Ab cb bb cf x y w ⟨Ro.row hw (Split.nil _) (by refine z_hs)⟩ hu hln) ?_
 rintro v S' (⟨h,-⟩ | ⟨-,g,s0,an,T,rfl,rfl,ptr,ha,hT⟩)
 ·exact absurd hcf h
 have hI:=new_inv (f:=f) hcf hxy hF ha hT
 rcases hT with⟨hs0,-,-,K,-,-,-,rfl⟩ | ⟨hs0,-,rfl,-⟩
 ·refine z_gvx
  refine c_dvL [.blk b13 43 [.int .i64 W,.int .i64 H,.slice Af f.length cfl,.int .i64 (30:Nat),.int .i32 0,.int .i32 0]] (0::1::2::3::4::5::6::7::8::9::10::[]) Sub.au ?_
  intro _
  refine z_govG
  all_goals
   refine j_outK (S':=NvH g s0 an [] (none,0,[]) (none,0,[]) (K.H (newV 8))) Sub.au ?_
   refine z_rk
   exact⟨g,s0,an,_,W,H,f,Af,cfl,rfl,rfl,by rw[hbb];exact hI,.inl hs0⟩
 ·refine z_gvx
  refine c_dvL [.blk b13 43 [.int .i64 W,.int .i64 H,.slice Af f.length cfl,.int .i64 (30:Nat),.int .i32 0,.int .i32 0]] (0::1::2::3::4::5::6::7::8::9::10::[]) Sub.au ?_
  intro _
  refine z_govG
  all_goals
   refine j_outK (S':=NvH g s0 an [] (none,0,[]) (none,0,[]) []) Sub.au ?_
   refine z_rk
   exact⟨g,s0,an,_,W,H,f,Af,cfl,rfl,rfl,by rw[hbb];exact hI,.inr hs0⟩
def fTo27:Nat→List Int
 | 0=>[]
 | i+1=>fTo27 i++[(i:Int)*(i:Int)%401]
theorem fTo27_len:∀n,(fTo27 n).length=n
 | 0=>rfl
 | n+1=>by rw[fTo27,List.length_append,fTo27_len n];rfl
theorem fTo27_all:fTo27 576=f27:=by decide +kernel
theorem c0_code:cnfC cnf0=2:=by decide
theorem get_nil:¬GetC [] 0:=by
 rintro(⟨h,-⟩ | ⟨h,-⟩ | ⟨h,-⟩)
 ·exact h rfl
 ·exact absurd h (by decide +kernel)
 ·exact absurd h (by decide +kernel)
theorem fr27_at:∀i,i<3→fr27.getD (3*i+1) default=⟨3,((3*i+1:Nat):Int)+1,10,f27.getD (225+i) 0*16+800,0,0⟩∧fr27.getD (3*i+2) default=⟨2,((3*i+1:Nat):Int)+2,10,800,0,0⟩∧fr27.getD (3*i+3) default=⟨1,((3*i+1:Nat):Int)+3,10,256,0,0⟩:=by
 intro i hi
 rcases(show i=0∨i=1∨i=2 by omega) with rfl|rfl|rfl<;>exact⟨rfl,rfl,rfl⟩
theorem w27_out:∃x:Frm,(takeN 24 24 f27 (newN c27 2048 2048) (fr27.getD 0 default)).2=[x]∧x.a=1:=by
 obtain⟨h1,h2⟩:=w27_1
 obtain⟨-,h3⟩:=takeN_step (W:=24) (H:=24) (f:=f27) (newN c27 2048 2048) (fr27.getD 0 default)
 have h4:(st27 1).mode=(takeN 24 24 f27 (newN c27 2048 2048) (fr27.getD 0 default)).1.mode:=rfl
 rw[h4]at h1
 rcases h3 with h|h | ⟨c,h,-⟩
 ·rw[h]at h2;cases h2
 ·exact⟨_,h,h1⟩
 ·rw[h]at h2;cases h2
theorem w27_bad:(tellN { newN c27 0 0 with mode:=4 }).2=[⟨7,1,0,4,0,0⟩]:=by rfl
theorem frm_ok{k s t a b c:Int}(h1:InR .i64 k)(h2:InR .u16 s)(h3:InR .u32 t)(h4:InR .i32 a)(h5:InR .i32 b)(h6:InR .i32 c):(⟨k,s,t,a,b,c⟩:Frm).ok:=⟨h1,h2,h3,h4,h5,h6⟩
theorem take4_t(g k:Nat)(s:NavS)(a:NvA)(x:Frm)(w:World)(hown:Own [.blk g 109 (navE s a)] w)(hN:NavOk s k)(hk:k≤16777217)(hm:s.mode=4)(hr:RoA w (blocks [.blk g 109 (navE s a)]) a.Ag s.g.p.length a.cg 1 (ints .i64 s.g.p)):
  Does Tryz.prog 12 [.pointer (some ⟨g,0,none⟩),.agg (frmE x).toArray] [.blk g 109 (navE s a)] w (fun v S'=>∃A5 c5,v=.slice A5 (tellN s).2.length c5∧S'=[.row (.slice A5 (tellN s).2.length c5) 50 6 (tellN s).2.length (flat frmE (tellN s).2),.blk g 109 (navE (tellN s).1 a)]):=by
 have i1:=nv_p hN.nvl
 have i2:=nv_w hN.nvl
 refine does_of Tryz.func12 rfl Tryz.ntmps12 rfl hown (fun _=>?_)
 simp only[slots]
 have iM4:∀w0 W H t u a b,MS Tryz.prog w0 W H (.binOp .eql t a b u) [.int .i64 s.mode,.int .i64 4] (.bool true) True:=fun _ _ _ _ _ _ _=>msM inferInstance trivial (congrArg Value.bool (by simp[hm]))
 refine z_tas
 refine lf rfl rfl rfl (S:=[.blk g 109 (navE s a)]) (fun w hw ho=>tell_any g k s a w ho hN hk ⟨hr.h.go hw Split.au⟩) ?_
 rintro v S' ⟨So,⟨A5,c5,rfl,rfl⟩,rfl⟩
 simp only[List.cons_append,List.nil_append]
 refine z_tas
 exact j_out1 rfl rfl Sub.au ⟨A5,c5,rfl,rfl⟩
theorem works27(w:World):Does Tryz.prog 9 [] [] w (fun v S'=>v=.bool true∧S'=[]):=by
 have hlz:=f27_in.1
 have hcb:2≤24∧24≤256∧2≤24∧24≤256∧1≤30∧30≤1000:=by omega
 have hi16:In16 f27:=in16_of (by decide +kernel)
 refine does_of Tryz.func9 rfl Tryz.ntmps9 rfl ⟨by simp,.nil⟩ (fun n=>?_)
 simp only[slots]
 refine j_nil (e:=86) (size:=1) ?_
 refine z_tas
 rename_i b1
 refine c_joinL (X:=Option Addr×Nat) (fun _=>True) (fun q=>[(1,.pointer (some ⟨b1,0,none⟩))]) (fun q=>[.blk b1 43 [.int .i64 24,.int .i64 24,.slice q.1 f27.length q.2,.int .i64 30,.int .i32 0,.int .i32 0],.row (.slice q.1 f27.length q.2) 86 1 f27.length (ints .i16 f27)]) ?_ ?_
 ·refine c_loop (X:=Nat×Option Addr×Nat) (fun q=>q.1≤576) (fun q=>[(1,.pointer (some ⟨b1,0,none⟩)),(2,.int .i64 q.1)])
   (fun q=>[.blk b1 43 [.int .i64 24,.int .i64 24,.slice q.2.1 (fTo27 q.1).length q.2.2,.int .i64 30,.int .i32 0,.int .i32 0],.row (.slice q.2.1 (fTo27 q.1).length q.2.2) 86 1 (fTo27 q.1).length (ints .i16 (fTo27 q.1))]) (fun q=>576-q.1) (0,none,0) (Nat.zero_le _) ⟨rfl,rfl,trivial⟩ (by simp only[fTo27,ints,List.map_nil,List.length_nil];exact Sub.au) ?_
  rintro⟨i,A1,c1⟩ hi
  dsimp only at hi ⊢
  have hwl:=fTo27_len i
  rcases Nat.lt_or_ge i 576 with h|h
  ·have e:fTo27 (i+1)=fTo27 i++[(i:Int)*(i:Int)%401]:=rfl
   have h1:=mulB 576 576 (a:=(i:Int)) (b:=(i:Int)) (by omega) (by omega)
   have h2:=Int.mul_nonneg (show 0≤(i:Int) by omega) (show 0≤(i:Int) by omega)
   refine z_tas
   rename_i A2 c2
   refine c_round (i+1,A2,c2) h (by show 576-(i+1)<576-i;omega) ⟨rfl,by simp[look],trivial⟩ ?_
   simp only[e]
   exact Sub.au
  ·obtain rfl:i=576:=by omega
   rw[fTo27_all]
   refine z_tas
   exact c_round (A1,c1) trivial trivial ⟨rfl,trivial⟩ Sub.au
 rintro⟨Af,cf⟩ -
 dsimp only
 refine z_tas
 refine lf rfl rfl rfl (S:=[]) (fun w hw ho=>bytes27_any 24 24 30 Af cf f27 0 0 w ⟨Ro.row hw (Split.nil _) (by refine z_hs)⟩ hcb (by rw[hlz]) hi16 (by decide) (by decide)) ?_
 rintro v S' ⟨Ab,cb,rfl,rfl⟩
 have hF:=caF_of (ox:=0) (oy:=0) hcb (show f27.length=24*24 by rw[hlz]) hi16 (by omega:1≤8∧8≤32)
 have hget:=chart_get (ox:=0) (oy:=0) hcb (show f27.length=24*24 by rw[hlz]) hi16
 obtain⟨-,h2,h3,-,-,-⟩:=chart_hdr (ox:=0) (oy:=0) (z:=f27) (W:=24) (H:=24) (cell:=30) (by omega)
 generalize chartB 24 24 30 0 0 f27=bb at *
 have hu:=hF.u8
 have hln:=hF.len
 refine z_tas
 rename_i b4
 refine lf rfl rfl rfl (S:=[]) (fun w hw ho=>nnew_c Ab cb bb c27 2048 2048 w ⟨Ro.row hw (Split.nil _) (by refine z_hs)⟩ hu hln) ?_
 rintro v S' (⟨h,-⟩ | ⟨-,g,s0,a0,T,rfl,rfl,ptr,ha,hT⟩)
 ·exact absurd c27_ok h
 have hI:=new_inv (f:=f27) c27_ok (x:=2048) (y:=2048) (by exact⟨by decide,by decide⟩) hF ha hT
 rcases hT with⟨rfl,-,-,K,hys,hrm,-,rfl⟩ | ⟨-,-,-,⟨code,hne,h⟩ | ⟨-,h⟩⟩
 rotate_left
 ·exact absurd (h.one hget) hne
 ·exact absurd h (by decide)
 refine z_tas
 refine lf rfl rfl rfl (S:=[]) (fun w hw ho=>nnew_c none 0 [] c27 0 0 w ⟨Ro.nil _ _ _⟩ (fun _ h=>absurd h (by simp)) (by decide)) ?_
 rintro v S' (⟨h,-⟩ | ⟨-,gm,sm,am,Tm,rfl,rfl,ptm,hma,⟨-,h,-⟩ | ⟨hsm,-,rfl,-⟩⟩)
 ·exact absurd c27_ok h
 ·exact absurd h get_nil
 refine z_tas
 refine lf rfl rfl rfl (S:=[]) (fun w hw ho=>nnew_c Ab cb bb cnf0 0 0 w ⟨Ro.row hw (Split.nil _) (by refine z_hs)⟩ hu hln) ?_
 rintro v S' (⟨-,rfl,rfl⟩ | ⟨h,-⟩)
 rotate_left
 ·exact absurd h (by rw[c0_code];decide)
 rw[c0_code]
 have hmN:NavOk sm 0:=by rw[hsm];exact newF_ok c27_ok ⟨by decide,by decide⟩
 have hm4:sm.mode=4:=by rw[hsm]
 have hmg:am.Ag=none∧am.cg=0∧sm.g.p=[]:=by rw[hma,hsm];exact⟨rfl,rfl,rfl⟩
 have hbad:(tellN sm).2=[⟨7,1,0,4,0,0⟩]:=by rw[hsm];exact w27_bad
 have hm44:(tellN sm).1.mode=4:=hm4
 have hmL:NvL (tellN sm).1:=⟨hmN.nvl.pl,hmN.nvl.wl⟩
 refine z_tas
 refine lf rfl rfl rfl (S:=[.blk gm 109 (navE sm am)]) (fun w hw ho=>take4_t gm 0 sm am ⟨5,0,0,1,0,0⟩ w ho hmN (by decide) hm4 (by rw[hmg.1,hmg.2.1,hmg.2.2];exact⟨Ro.nil _ _ _⟩)) ?_
 rintro v S' ⟨A6,c6,rfl,rfl⟩
 rw[hbad]
 clear hsm hma hmg hbad hmN hm4
 generalize (tellN sm).1=s6 at *
 refine z_tas
 have TK:=fun (w:World) (k:Nat) (s:NavS) (a:NvA) (ds:List DedX) (x1 x2:Plc) (T:List HE) (x:Frm) (b:Int) (ho:Own (NvH g s a ds x1 x2 T) w) (hI:NvI bb f27 k b s a ds x1 x2 T) (hx:x.ok) (hk:k≤16777214) (hb:b≤200000000000000000)=>take_t bb f27 g k s a ds x1 x2 T x b w ho hI hx hk hb
 rw[h2,h3]at TK
 obtain⟨xo,hxo,hxa⟩:=w27_out
 refine j_perm (H':=.row (.slice A6 1 c6) 50 6 1 [.int .i64 7,.int .u16 1,.int .u32 0,.int .i32 4,.int .i32 0,.int .i32 0]::.blk gm 109 (navE s6 am)::.blk b4 31 (cnfE c27)::.blk b1 43 [.int .i64 24,.int .i64 24,.slice Af f27.length cf,.int .i64 30,.int .i32 0,.int .i32 0]::.row (.slice Af f27.length cf) 86 1 f27.length (ints .i16 f27)::NvH g (newN c27 2048 2048) a0 [] (none,0,[]) (none,0,[]) (K.H (newV 8))) (Sub.cons (.here _ _) (Sub.cons (.here _ _) (Sub.cons (.there _ (.there _ (.there _ (.there _ (.there _ (.there _ (.there _ (.there _ (.there _ (.there _ (.there _ (.there _ (.there _ (.there _ (.there _ (.here _ _)))))))))))))))) (Sub.cons (.there _ (.there _ (.there _ (.there _ (.there _ (.there _ (.there _ (.there _ (.there _ (.there _ (.there _ (.there _ (.there _ (.there _ (.there _ (.there _ (.here _ _))))))))))))))))) (Sub.cons (.there _ (.there _ (.there _ (.there _ (.there _ (.there _ (.there _ (.there _ (.there _ (.there _ (.there _ (.there _ (.there _ (.there _ (.there _ (.there _ (.here _ _))))))))))))))))) (Sub.cons (.there _ (.there _ (.there _ (.there _ (.there _ (.here _ _)))))) (Sub.cons (.there _ (.there _ (.there _ (.there _ (.there _ (.here _ _)))))) (Sub.cons (.there _ (.there _ (.there _ (.there _ (.there _ (.here _ _)))))) (Sub.cons (.there _ (.there _ (.there _ (.there _ (.there _ (.here _ _)))))) (Sub.cons (.there _ (.there _ (.there _ (.there _ (.there _ (.here _ _)))))) (Sub.cons (.there _ (.there _ (.there _ (.there _ (.there _ (.here _ _)))))) (Sub.cons (.there _ (.there _ (.there _ (.there _ (.there _ (.here _ _)))))) (Sub.cons (.there _ (.there _ (.there _ (.there _ (.there _ (.here _ _)))))) (Sub.cons (.there _ (.there _ (.there _ (.there _ (.there _ (.here _ _)))))) (Sub.cons (.there _ (.there _ (.there _ (.there _ (.there _ (.here _ _)))))) (Sub.nil _)))))))))))))))) ?_
 generalize K.H (newV 8)=T0 at *
 refine z_tas
 refine lfn (S:=NvH g (newN c27 2048 2048) a0 [] (none,0,[]) (none,0,[]) T0) rfl rfl (Split.preT _ [_,_,_,_,_]) rfl (fun w hw ho=>TK w 0 _ a0 [] _ _ T0 ⟨5,1,1,1,0,0⟩ 0 ho hI ⟨by decide,by decide,by decide,by decide,by decide,by decide⟩ (by decide) (by decide)) ?_
 rintro v S' ⟨So,a1,ds1,y1,y2,T1,⟨A5,c5,rfl,rfl⟩,rfl,hI1⟩
 rw[show (takeN 24 24 f27 (newN c27 2048 2048) ⟨5,1,1,1,0,0⟩).2=[xo]from hxo]
 rw[show (takeN 24 24 f27 (newN c27 2048 2048) ⟨5,1,1,1,0,0⟩).1=st27 1 from rfl]at hI1 ⊢
 refine j_swapT ?_
 simp only[List.cons_append,List.nil_append]
 have hmd1:=w27_1.1
 refine z_tas
 refine lf rfl rfl rfl (S:=[.blk g 109 (navE (st27 1) a1)]) (fun w hw ho=>mode_any g (st27 1) a1 w ho hI1.ok.nvl) ?_
 rintro v S' ⟨rfl,rfl⟩
 rw[hmd1]
 refine z_tas
 refine c_joinL (X:=NvA×List DedX×Plc×Plc×List HE) (fun q=>NvI bb f27 10 60000000 (st27 10) q.1 q.2.1 q.2.2.1 q.2.2.2.1 q.2.2.2.2) (fun _=>[(4,.pointer (some ⟨b4,0,none⟩)),(5,.pointer (some ⟨g,0,none⟩)),(6,.int .i64 0),(7,.pointer (some ⟨gm,0,none⟩)),(8,.int .i64 0),(10,.int .i64 2),(11,.slice A6 1 c6),(12,.slice A5 1 c5),(13,.int .i64 1)])
  (fun q=>.row (.slice A6 1 c6) 50 6 1 [.int .i64 7,.int .u16 1,.int .u32 0,.int .i32 4,.int .i32 0,.int .i32 0]::.blk gm 109 (navE s6 am)::.blk b4 31 (cnfE c27)::.blk b1 43 [.int .i64 24,.int .i64 24,.slice Af f27.length cf,.int .i64 30,.int .i32 0,.int .i32 0]::.row (.slice Af f27.length cf) 86 1 f27.length (ints .i16 f27)::.row (.slice A5 1 c5) 50 6 1 (frmE xo)::NvH g (st27 10) q.1 q.2.1 q.2.2.1 q.2.2.2.1 q.2.2.2.2) ?_ ?_
 ·refine c_loop (X:=Nat×NvA×List DedX×Plc×Plc×List HE) (fun q=>q.1≤3∧NvI bb f27 (3*q.1+1) (6000000*((3*q.1+1:Nat):Int)) (st27 (3*q.1+1)) q.2.1 q.2.2.1 q.2.2.2.1 q.2.2.2.2.1 q.2.2.2.2.2)
   (fun q=>[(1,.pointer (some ⟨b1,0,none⟩)),(4,.pointer (some ⟨b4,0,none⟩)),(5,.pointer (some ⟨g,0,none⟩)),(6,.int .i64 0),(7,.pointer (some ⟨gm,0,none⟩)),(8,.int .i64 0),(10,.int .i64 2),(11,.slice A6 1 c6),(12,.slice A5 1 c5),(13,.int .i64 1),(14,.int .u16 ((3*q.1+1:Nat):Int)),(15,.int .i64 q.1)])
   (fun q=>.row (.slice A6 1 c6) 50 6 1 [.int .i64 7,.int .u16 1,.int .u32 0,.int .i32 4,.int .i32 0,.int .i32 0]::.blk gm 109 (navE s6 am)::.blk b4 31 (cnfE c27)::.blk b1 43 [.int .i64 24,.int .i64 24,.slice Af f27.length cf,.int .i64 30,.int .i32 0,.int .i32 0]::.row (.slice Af f27.length cf) 86 1 f27.length (ints .i16 f27)::.row (.slice A5 1 c5) 50 6 1 (frmE xo)::NvH g (st27 (3*q.1+1)) q.2.1 q.2.2.1 q.2.2.2.1 q.2.2.2.2.1 q.2.2.2.2.2) (fun q=>3-q.1) (0,a1,ds1,y1,y2,T1) ⟨Nat.zero_le _,hI1⟩ ⟨rfl,rfl,rfl,rfl,rfl,rfl,rfl,rfl,rfl,rfl,rfl,rfl,trivial⟩ (Sub.appT (S:=[_,_,_,_,_,_,_,_,_,_,_,_]) (H:=[_,_,_,_,_,_,_,_,_,_,_,_]) T1 (Sub.cons (.there _ (.here _ _)) (Sub.cons (.there _ (.here _ _)) (Sub.cons (.there _ (.here _ _)) (Sub.cons (.there _ (.here _ _)) (Sub.cons (.there _ (.here _ _)) (Sub.cons (.there _ (.here _ _)) (Sub.cons (.there _ (.here _ _)) (Sub.cons (.there _ (.here _ _)) (Sub.cons (.here _ _) (Sub.cons (.here _ _) (Sub.cons (.here _ _) (Sub.cons (.here _ _) (Sub.nil _)))))))))))))) ?_
  rintro⟨i,a0,d0,p0,q0,t0⟩ ⟨hi,hI0⟩
  dsimp only at hi hI0 ⊢
  rcases Nat.lt_or_ge i 3 with h|h
  ·obtain⟨e1,e2,e3⟩:=fr27_at i h
   have s1:st27 (3*i+2)=(takeN 24 24 f27 (st27 (3*i+1)) (fr27.getD (3*i+1) default)).1:=st27_s (k:=3*i+1) (by omega)
   have s2:st27 (3*i+3)=(takeN 24 24 f27 (st27 (3*i+2)) (fr27.getD (3*i+2) default)).1:=st27_s (k:=3*i+2) (by omega)
   have s3:st27 (3*i+4)=(takeN 24 24 f27 (st27 (3*i+3)) (fr27.getD (3*i+3) default)).1:=st27_s (k:=3*i+3) (by omega)
   rw[e1]at s1
   rw[e2]at s2
   rw[e3]at s3
   have hzz : -32768≤f27.getD (225+i) 0∧f27.getD (225+i) 0≤32767:=by
    have hlt:225+i<f27.length:=by omega
    rw[List.getD_eq_getElem?_getD,List.getElem?_eq_getElem hlt]
    exact f27_in.2 _ (List.getElem_mem hlt)
   have iA:∀w0 W H t u a b,MS Tryz.prog w0 W H (.binOp .add t a b u) [.int .i64 225,.int .i64 (i:Int)] (.int .i64 ((225+i:Nat):Int)) True:=fun _ _ _ _ _ _ _=>msM inferInstance (by show (-9223372036854775808:Int)≤_∧_≤(9223372036854775807:Int);omega) (congrArg (Value.int .i64) (by push_cast;rfl))
   have hx1:(⟨3,((3*i+1:Nat):Int)+1,10,f27.getD (225+i) 0*16+800,0,0⟩:Frm).ok:=frm_ok (by decide) (by show (0:Int)≤_∧_≤(65535:Int);omega) (by decide) (by show (-2147483648:Int)≤_∧_≤(2147483647:Int);omega) (by decide) (by decide)
   have hx2:(⟨2,((3*i+1:Nat):Int)+2,10,800,0,0⟩:Frm).ok:=frm_ok (by decide) (by show (0:Int)≤_∧_≤(65535:Int);omega) (by decide) (by decide) (by decide) (by decide)
   have hx3:(⟨1,((3*i+1:Nat):Int)+3,10,256,0,0⟩:Frm).ok:=frm_ok (by decide) (by show (0:Int)≤_∧_≤(65535:Int);omega) (by decide) (by decide) (by decide) (by decide)
   refine z_tas
   refine lfn (S:=NvH g (st27 (3*i+1)) a0 d0 p0 q0 t0) rfl rfl (Split.preT _ [_,_,_,_,_,_]) rfl (fun w hw ho=>TK w (3*i+1) _ a0 d0 p0 q0 t0 ⟨3,((3*i+1:Nat):Int)+1,10,f27.getD (225+i) 0*16+800,0,0⟩ (6000000*((3*i+1:Nat):Int)) ho hI0 hx1 (by omega) (by omega)) ?_
   rintro v S' ⟨So,a2,d2,p2,q2,t2,⟨A20,c20,rfl,rfl⟩,rfl,hI2⟩
   rw[← s1]at hI2 ⊢
   refine j_swapT ?_
   simp only[List.cons_append,List.nil_append]
   have hI2:NvI bb f27 (3*i+2) (6000000*((3*i+2:Nat):Int)) (st27 (3*i+2)) a2 d2 p2 q2 t2:=⟨hI2.ok,hI2.near,hI2.dl,hI2.g,hI2.n,hI2.ca.mono rfl (by omega)⟩
   refine z_tas
   refine lfn (S:=NvH g (st27 (3*i+2)) a2 d2 p2 q2 t2) rfl rfl (Split.preT _ [_,_,_,_,_,_,_]) rfl (fun w hw ho=>TK w (3*i+2) _ a2 d2 p2 q2 t2 ⟨2,((3*i+1:Nat):Int)+2,10,800,0,0⟩ (6000000*((3*i+2:Nat):Int)) ho hI2 hx2 (by omega) (by omega)) ?_
   rintro v S' ⟨So,a3,d3,p3,q3,t3,⟨A30,c30,rfl,rfl⟩,rfl,hI3⟩
   rw[← s2]at hI3 ⊢
   refine j_swapT ?_
   simp only[List.cons_append,List.nil_append]
   have hI3:NvI bb f27 (3*i+3) (6000000*((3*i+3:Nat):Int)) (st27 (3*i+3)) a3 d3 p3 q3 t3:=⟨hI3.ok,hI3.near,hI3.dl,hI3.g,hI3.n,hI3.ca.mono rfl (by omega)⟩
   refine z_tas
   refine lfn (S:=NvH g (st27 (3*i+3)) a3 d3 p3 q3 t3) rfl rfl (Split.preT _ [_,_,_,_,_,_,_,_]) rfl (fun w hw ho=>TK w (3*i+3) _ a3 d3 p3 q3 t3 ⟨1,((3*i+1:Nat):Int)+3,10,256,0,0⟩ (6000000*((3*i+3:Nat):Int)) ho hI3 hx3 (by omega) (by omega)) ?_
   rintro v S' ⟨So,a4,d4,p4,q4,t4,⟨A40,c40,rfl,rfl⟩,rfl,hI4⟩
   rw[← s3]at hI4 ⊢
   refine j_swapT ?_
   simp only[List.cons_append,List.nil_append]
   have hI4:NvI bb f27 (3*(i+1)+1) (6000000*((3*(i+1)+1:Nat):Int)) (st27 (3*i+4)) a4 d4 p4 q4 t4:=⟨hI4.ok,hI4.near,hI4.dl,hI4.g,hI4.n,hI4.ca.mono rfl (by omega)⟩
   refine z_tas
   exact c_round (i+1,a4,d4,p4,q4,t4) ⟨h,hI4⟩ (by show 3-(i+1)<3-i;omega) ⟨rfl,rfl,rfl,rfl,rfl,rfl,rfl,rfl,rfl,rfl,by simp[look];omega,by simp[look],trivial⟩ (.cons (.here _ _) (.cons (.here _ _) (.cons (.here _ _) (.cons (.here _ _) (.cons (.here _ _) (.cons (.here _ _) (.skip (.skip (.skip (.refl _) _) _) _)))))))
  ·obtain rfl:i=3:=by omega
   refine z_tas
   exact c_round (a0,d0,p0,q0,t0) hI0 trivial ⟨rfl,rfl,rfl,rfl,rfl,rfl,rfl,rfl,rfl,trivial⟩ (.refl _)
 rintro⟨a9,d9,p9,q9,t9⟩ hI9
 dsimp only at hI9 ⊢
 obtain⟨v1,v2,v3,v4,v5,v6,v7⟩:=w27_e
 have hh:holdsN (st27 10).mode=true:=by rw[v1];rfl
 generalize st27 10=s9 at *
 have hN:=hI9.ok
 have hL9:=hN.nvl
 have hil:=hN.len
 have hdl9:=hN.dl
 have hG9:=fun w ho=>gridat_any g s9 a9 w ho hL9
 rw[hh,if_pos rfl]at hG9
 obtain⟨hgo,hfr⟩:=hN.g hh
 refine z_tas
 refine lf rfl rfl rfl (S:=[.blk g 109 (navE s9 a9)]) (fun w hw ho=>hG9 w ho) ?_
 rintro v S' ⟨rfl,rfl⟩
 refine z_tas
 refine lf rfl rfl rfl (S:=[.blk g 109 (navE s9 a9)]) (fun w hw ho=>inputs_any g s9 a9 w ho hL9 ⟨Ro.row hw Split.au (by refine z_hs)⟩ ⟨Ro.row hw Split.au (by refine z_hs)⟩ (by omega)) ?_
 rintro v S' ⟨A1,c1,A2,c2,rfl,rfl⟩
 have iXa:∀w0 W H t u a b,MS Tryz.prog w0 W H (.binOp .eql t a b u) [.int .i32 xo.a,.int .i32 1] (.bool true) True:=fun _ _ _ _ _ _ _=>msM inferInstance trivial (congrArg Value.bool (by simp[hxa]))
 have hdd:=hI9.dl
 have iDd:∀w0 W H t u a b,MS Tryz.prog w0 W H (.binOp .gtr t a b u) [.int .i64 (d9.length:Int),.int .i64 3] (.bool true) True:=fun _ _ _ _ _ _ _=>msM inferInstance trivial (congrArg Value.bool (by simp;omega))
 have iMd:∀w0 W H t u a b,MS Tryz.prog w0 W H (.binOp .gtr t a b u) [.int .i64 (s9.modes.length:Int),.int .i64 5] (.bool true) True:=fun _ _ _ _ _ _ _=>msM inferInstance trivial (congrArg Value.bool (by simp;omega))
 have iBk:∀w0 W H t u a b,MS Tryz.prog w0 W H (.binOp .gtr t a b u) [.int .i64 s9.bk.b,.int .i64 0] (.bool true) True:=fun _ _ _ _ _ _ _=>msM inferInstance trivial (congrArg Value.bool (by simp;omega))
 have iCk:CV Tryz.prog 8 [.agg (cnfE c27).toArray] (.int .i64 0) True:=⟨fun _ w=>by have:=(navcheck_cv c27).h trivial w;rwa [c27_ok]at this⟩
 refine z_tas
 refine lf rfl rfl rfl (S:=[.blk gm 109 (navE s6 am)]) (fun w hw ho=>mode_any gm s6 am w ho hmL) ?_
 rintro v S' ⟨rfl,rfl⟩
 rw[hm44]
 refine z_tas
 refine lf rfl rfl rfl (S:=[.blk g 109 (navE s9 a9)]) (fun w hw ho=>mode_any g s9 a9 w ho hL9) ?_
 rintro v S' ⟨rfl,rfl⟩
 rw[v1]
 refine z_tas
 refine lfv rfl rfl rfl (fun w hw=>gcheck_any s9.g a9.Ag a9.cg w (In3.ro (y:=(a9.Ag,a9.cg,s9.g.p)) hI9.g hw (Split.nil _) (by refine z_hs) (by refine z_hs)) hgo.1 hgo.2.1 hgo.2.2.1 hgo.2.2.2.1 hgo.2.2.2.2) ?_
 refine z_tas
 refine lf rfl rfl rfl (S:=[.blk g 109 (navE s9 a9)]) (fun w hw ho=>deeds_any g s9 a9 d9 w ho hL9 hdd ⟨Ro.row hw Split.au (by refine z_hs)⟩ (by omega) hh) ?_
 rintro v S' ⟨A3,c3,rfl,rfl⟩
 refine z_tas
 refine lf rfl rfl rfl (S:=[.blk g 109 (navE s9 a9)]) (fun w hw ho=>insat_any g s9 a9 w ho hL9) ?_
 rintro v S' ⟨rfl,rfl⟩
 rw[v4,v5]
 refine z_tas
 refine lf rfl rfl rfl (S:=[.blk g 109 (navE s9 a9)]) (fun w hw ho=>book_any g s9 a9 w ho hL9) ?_
 rintro v S' ⟨rfl,rfl⟩
 refine z_tas
 refine lf rfl rfl rfl (S:=[.blk g 109 (navE s9 a9)]) (fun w hw ho=>flags_any g 10 s9 a9 w ho hN (by decide) (In3.ro (y:=(a9.Ag,a9.cg,s9.g.p)) hI9.g hw Split.au (by refine z_hs) (by refine z_hs))) ?_
 rintro v S' ⟨rfl,rfl⟩
 rw[v7]
 refine z_tas
 exact j_out1 (S':=[]) rfl rfl (.nil _) ⟨rfl,rfl⟩
end Go.Proofs.YthajpemlpmlefaaGreat
