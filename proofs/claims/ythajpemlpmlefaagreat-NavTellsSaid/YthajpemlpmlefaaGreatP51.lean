import Derived.Test.YthajpemlpmlefaaGreatP48
set_option maxHeartbeats 512000000
set_option maxRecDepth 4000
set_option linter.unusedVariables false
set_option linter.unusedSimpArgs false
namespace Go.Proofs.YthajpemlpmlefaaGreat
open Go.RowKit
def LkR(K:CaT)(g:Nat)(a:NvA)(nx:List Int)(s':NavS)(c1:CaV)(S':List HE):Prop:=∃A2 c2 R,((R=[]∧A2=a.An∧c2=a.cn∧s'.next.p=nx)∨R=[.row (.slice A2 s'.next.p.length c2) 2 1 s'.next.p.length (ints .i64 s'.next.p)]) ∧
 S'=R++.blk g 109 (navE s' { a with An:=A2,cn:=c2 })::K.H c1
theorem cbTo_in64{l:List Stp}(h:∀i,i<l.length→-1≤(l.getD i default).cost∧(l.getD i default).cost≤4611686018427387904):∀n,n≤l.length→-1≤(cbTo l n).cost∧(cbTo l n).cost≤4611686018427387904
 | 0,_=>by rw[cbTo];decide
 | n+1,hn=>by
  have h1:=cbTo_in64 h n (by omega)
  have h2:=h n (by omega)
  rw[cbTo]
  split
  ·exact h2
  ·exact h1
theorem secTo_in64{l:List Stp}(h:∀i,i<l.length→-1≤(l.getD i default).cost∧(l.getD i default).cost≤4611686018427387904)(b:Stp)(away:Int):∀n,n≤l.length→-1≤secTo l b away n∧secTo l b away n≤4611686018427387904
 | 0,_=>by rw[secTo];decide
 | n+1,hn=>by
  have h1:=secTo_in64 h b away n (by omega)
  have h2:=h n (by omega)
  rw[secTo]
  split
  ·exact h2
  ·exact h1
attribute [local irreducible] OJ J HdJ Code.wpIn wpListIn Oper.wpIn bodyPost CallsIn Does
instance clear_cv(best second num den:Int):CV Tryz.prog 130 [.int .i64 best,.int .i64 second,.int .i64 num,.int .i64 den] (.bool (clrB best second num den)) (InR .i64 best∧InR .i64 second∧InR .i64 num∧InR .i64 den):=⟨fun hc w=>clear21_any best second num den hc.1 hc.2.1 hc.2.2.1 hc.2.2.2 w⟩
theorem look_t(K:CaT)(c0:CaV)(f:List Int)(g k:Nat)(s:NavS)(a:NvA)(b:Int)(w:World)(hown:Own (.blk g 109 (navE s a)::K.H c0) w)(hN:NavOk s k)(hk:k≤16777217)(hp:a.ptr=some ⟨K.g,0,none⟩)(hF:CaF K.ys f K.room)(hk0:CaOk K.ys f K.room c0 b)(hb:b≤400000000000000000):
  Does Tryz.prog 77 [.pointer (some ⟨g,0,none⟩)] (.blk g 109 (navE s a)::K.H c0) w
   (fun v S'=>v=.agg (inpE (lookN (wY K.ys) (hY K.ys) f s).2).toArray∧∃c1,CaOk K.ys f K.room c1 (b+6000000)∧LkR K g a s.next.p (lookN (wY K.ys) (hY K.ys) f s).1 c1 S'):=by
 have i1:=nv_p hN.nvl
 have i2:=nv_w hN.nvl
 have hbl:=pBack_len s.p
 have hB:=fun w ho=>n_pback g s a w ho hN.p
 rw[← hbl]at hB
 have hC:=fun (t:Int) w ho=>n_pclear g { s with tries:=t } a w ho hN.p
 have hpn:=hN.p.n
 have htr:=hN.tr
 obtain⟨hc1,hc2,hc3,hc4,hc5,hc6,hc7⟩:=cnfC_ok hN.cf
 have hall:=fun i hi=>allL_in (W:=wY K.ys) (H:=hY K.ys) (f:=f) (s:=⟨s.x,s.y,s.cf.far,s.cf.step⟩) (l:=pBack s.p) (m:=s.cf.meas) (i:=i) hi
 have hlen:=allL_len (wY K.ys) (hY K.ys) f ⟨s.x,s.y,s.cf.far,s.cf.step⟩ (pBack s.p) s.cf.meas
 have hM:=fun Al cl w ho hr=>mbest_t K c0 f ⟨s.x,s.y,s.cf.far,s.cf.step⟩ Al cl (pBack s.p) s.cf.meas s.cf.away b w ho hF hk0 (by omega) hr (by omega)
 have hS:=fun Al cl c1 b1 w ho hk hb hr=>smake_t K c1 f ⟨s.x,s.y,s.cf.far,s.cf.step⟩ Al cl (pBack s.p) s.cf.meas s.cf.times b1 w ho hF hk hb hr (by omega) (by show (-9223372036854775808:Int)≤_∧_≤(9223372036854775807:Int);omega)
 have hb1:=cbTo_in64 (l:=allL (wY K.ys) (hY K.ys) f ⟨s.x,s.y,s.cf.far,s.cf.step⟩ (pBack s.p) s.cf.meas) (fun i hi=>by have:=(hall i hi).2.2.1;omega) _ (Nat.le_refl _)
 have hb2:=secTo_in64 (l:=allL (wY K.ys) (hY K.ys) f ⟨s.x,s.y,s.cf.far,s.cf.step⟩ (pBack s.p) s.cf.meas) (fun i hi=>by have:=(hall i hi).2.2.1;omega) (cbTo (allL (wY K.ys) (hY K.ys) f ⟨s.x,s.y,s.cf.far,s.cf.step⟩ (pBack s.p) s.cf.meas) (allL (wY K.ys) (hY K.ys) f ⟨s.x,s.y,s.cf.far,s.cf.step⟩ (pBack s.p) s.cf.meas).length) s.cf.away _ (Nat.le_refl _)
 have hL:lookN (wY K.ys) (hY K.ys) f s=if (allL (wY K.ys) (hY K.ys) f ⟨s.x,s.y,s.cf.far,s.cf.step⟩ (pBack s.p) s.cf.meas).length≠0∧clrB (cbTo (allL (wY K.ys) (hY K.ys) f ⟨s.x,s.y,s.cf.far,s.cf.step⟩ (pBack s.p) s.cf.meas) (allL (wY K.ys) (hY K.ys) f ⟨s.x,s.y,s.cf.far,s.cf.step⟩ (pBack s.p) s.cf.meas).length).cost (secTo (allL (wY K.ys) (hY K.ys) f ⟨s.x,s.y,s.cf.far,s.cf.step⟩ (pBack s.p) s.cf.meas) (cbTo (allL (wY K.ys) (hY K.ys) f ⟨s.x,s.y,s.cf.far,s.cf.step⟩ (pBack s.p) s.cf.meas) (allL (wY K.ys) (hY K.ys) f ⟨s.x,s.y,s.cf.far,s.cf.step⟩ (pBack s.p) s.cf.meas).length) s.cf.away (allL (wY K.ys) (hY K.ys) f ⟨s.x,s.y,s.cf.far,s.cf.step⟩ (pBack s.p) s.cf.meas).length) s.cf.num s.cf.den=true∧mkC (wY K.ys) (hY K.ys) f ⟨s.x,s.y,s.cf.far,s.cf.step⟩ (pBack s.p) s.cf.meas s.cf.times=0 then ({ s with next:=mkG (wY K.ys) (hY K.ys) f ⟨s.x,s.y,s.cf.far,s.cf.step⟩ (pBack s.p) s.cf.meas s.cf.times },{ inp0 with clear:=true })
  else ({ s with tries:=s.tries+1,p:=pNew s.p.gap },{ inp0 with tried:=decide (s.cf.tries≤s.tries+1) }):=rfl
 rw[hL]
 clear hL hall
 generalize secTo (allL (wY K.ys) (hY K.ys) f ⟨s.x,s.y,s.cf.far,s.cf.step⟩ (pBack s.p) s.cf.meas) (cbTo (allL (wY K.ys) (hY K.ys) f ⟨s.x,s.y,s.cf.far,s.cf.step⟩ (pBack s.p) s.cf.meas) (allL (wY K.ys) (hY K.ys) f ⟨s.x,s.y,s.cf.far,s.cf.step⟩ (pBack s.p) s.cf.meas).length) s.cf.away (allL (wY K.ys) (hY K.ys) f ⟨s.x,s.y,s.cf.far,s.cf.step⟩ (pBack s.p) s.cf.meas).length=sec at *
 generalize cbTo (allL (wY K.ys) (hY K.ys) f ⟨s.x,s.y,s.cf.far,s.cf.step⟩ (pBack s.p) s.cf.meas) (allL (wY K.ys) (hY K.ys) f ⟨s.x,s.y,s.cf.far,s.cf.step⟩ (pBack s.p) s.cf.meas).length=best at *
 generalize (allL (wY K.ys) (hY K.ys) f ⟨s.x,s.y,s.cf.far,s.cf.step⟩ (pBack s.p) s.cf.meas).length=many at *
 generalize mkC (wY K.ys) (hY K.ys) f ⟨s.x,s.y,s.cf.far,s.cf.step⟩ (pBack s.p) s.cf.meas s.cf.times=code at *
 generalize mkG (wY K.ys) (hY K.ys) f ⟨s.x,s.y,s.cf.far,s.cf.step⟩ (pBack s.p) s.cf.meas s.cf.times=mg at *
 obtain⟨bi,bk,bc⟩:=best
 dsimp only at *
 dsimp only[schE,stpE]at *
 have iC:=clear_cv bc sec s.cf.num s.cf.den
 generalize clrB bc sec s.cf.num s.cf.den=cl0 at *
 generalize pBack s.p=bl at *
 refine does_of Tryz.func77 rfl Tryz.ntmps77 rfl hown (fun _=>?_)
 simp only[slots]
 refine z_tas
 rename_i b2
 refine c_joinE2 (X:=Nat) (fun _=>True) (fun q=>[(0,.pointer (some ⟨g,0,none⟩)),(2,.pointer (some ⟨b2,0,none⟩)),(3,.pointer (some ⟨q,0,none⟩))]) (fun q=>.blk q 226 [.int .i64 s.x,.int .i64 s.y,.int .i64 s.cf.far,.int .i64 s.cf.step]::.blk b2 58 [.bool false,.bool false,.bool false,.bool false,.bool false,.bool false,.bool false,.bool false,.bool false]::.blk g 109 (navE s a)::K.H c0) ?_ ?_
 ·refine c_drx [.blk g 109 (navE s a)] [true,true,true,true,true,true,true,true,true,true,true,true,true,true,false,false,false] [14,15,16] Sub.au rfl (by decide) (by decide +kernel) ?_
  repeat' (first|refine x_skip rfl rfl rfl ?_|(refine x_run rfl rfl rfl ?_ ?_;(next=>first|exact trivial|omega))|refine x_nil ?_)
  refine t_weakV ?_
  intro _
  refine z_gvx
  all_goals (rename_i q;exact c_round q trivial trivial ⟨rfl,rfl,rfl,trivial⟩ Sub.au)
 rintro b3 -
 refine z_tas
 refine lf rfl rfl rfl (S:=[.blk g 109 (navE s a)]) (fun w hw ho=>hB w ho) ?_
 rintro v S' ⟨Al,cl,rfl,rfl⟩
 refine z_tas
 refine c_joinE2 (X:=Nat×CaV) (fun q=>CaOk K.ys f K.room q.2 (b+2163200)) (fun q=>[(0,.pointer (some ⟨g,0,none⟩)),(2,.pointer (some ⟨b2,0,none⟩)),(3,.pointer (some ⟨b3,0,none⟩)),(4,.slice Al bl.length cl),(5,.pointer (some ⟨q.1,0,none⟩)),(6,.int .i64 sec),(7,.int .i64 many)]) (fun q=>.blk q.1 230 [.int .i64 bi,.int .i64 bk,.int .i64 bc]::.row (.slice Al bl.length cl) 99 3 bl.length (flat smpE bl)::.blk b3 226 [.int .i64 s.x,.int .i64 s.y,.int .i64 s.cf.far,.int .i64 s.cf.step]::.blk b2 58 [.bool false,.bool false,.bool false,.bool false,.bool false,.bool false,.bool false,.bool false,.bool false]::.blk g 109 (navE s a)::K.H q.2) ?_ ?_
 ·refine c_drx [.blk b3 226 [.int .i64 s.x,.int .i64 s.y,.int .i64 s.cf.far,.int .i64 s.cf.step],.blk g 109 (navE s a)] [true,true,true,true,true,true,true,true,true,true,true,true,true,true,true,true,false,false,false,false,false,false,false,false,false] [16,17,18,19,20,21,22,23,24] Sub.au rfl (by decide) (by decide +kernel) ?_
  repeat' (first|refine x_skip rfl rfl rfl ?_|(refine x_run rfl rfl rfl ?_ ?_;(next=>first|exact trivial|omega))|refine x_nil ?_)
  refine t_weakV ?_
  intro _
  refine z_gvx
  all_goals rw[hp]
  all_goals refine lf rfl rfl rfl (S:=K.H c0) (fun w hw ho=>hM Al cl w ho ⟨Ro.row hw Split.au (by refine z_hs)⟩) ?_
  all_goals rintro v S' ⟨c1,hk1,rfl,rfl⟩
  all_goals refine z_gvx
  all_goals (rename_i q;exact c_round (q,c1) hk1 trivial ⟨rfl,rfl,rfl,rfl,rfl,rfl,rfl,trivial⟩ Sub.au)
 rintro⟨b5,c1⟩ hk1
 dsimp only at hk1 ⊢
 have ihb:InR .i64 bc∧InR .i64 sec∧InR .i64 s.cf.num∧InR .i64 s.cf.den:=by
  refine⟨?_,?_,?_,?_⟩<;>(show (-9223372036854775808:Int)≤_∧_≤(9223372036854775807:Int);omega)
 have iC2:CV Tryz.prog 130 [.int .i64 bc,.int .i64 sec,.int .i64 s.cf.num,.int .i64 s.cf.den] (.bool cl0) True:=⟨fun _ w=>iC.h ihb w⟩
 clear iC ihb
 have iG:∀w0 W H t u a b,MS Tryz.prog w0 W H (.binOp .gtr t a b u) [.int .i64 (many:Int),.int .i64 0] (.bool (decide (many≠0))) True:=fun _ _ _ _ _ _ _=>msM inferInstance trivial (congrArg Value.bool (by by_cases h:many=0<;>simp[h];omega))
 have iG2:∀w0 W H t u a b,LV Tryz.prog w0 W H (.binOp .gtr t a b u) [.int .i64 (many:Int),.int .i64 0] (.bool (decide (many≠0))) True:=fun _ _ _ _ _ _ _=>lvM inferInstance trivial (congrArg Value.bool (by by_cases h:many=0<;>simp[h];omega))
 have hck:=hS Al cl c1 (b+2163200)
 have hnl:(pNew s.p.gap).l.length=64:=(pNew_ok s.p.gap).len
 have hL2:NvL ({ s with tries:=s.tries+1,p:=pNew s.p.gap }:NavS):=⟨hnl,hN.nvl.wl⟩
 have i9:=nv_p hL2
 dsimp only at i9
 by_cases hok:many≠0∧cl0=true∧code=0
 ·obtain⟨hmn,rfl,rfl⟩:=hok
  rw[if_pos ⟨hmn,rfl,rfl⟩]
  rw[decide_eq_true hmn]at iG iG2
  obtain⟨mw,mh,mx,my,ms,mp⟩:=mg
  dsimp only[grE]at *
  refine z_tas
  refine c_dv (0::1::2::3::4::5::6::7::8::9::10::11::12::13::14::15::16::17::[]) ?_;intro _
  refine z_gvy
  refine c_joinE2 (X:=Nat×Nat×CaV×Option Addr×Nat) (fun q=>CaOk K.ys f K.room q.2.2.1 (b+2163200+3244800)) (fun q=>[(0,.pointer (some ⟨g,0,none⟩)),(2,.pointer (some ⟨b2,0,none⟩)),(8,.pointer (some ⟨q.1,0,none⟩)),(10,.int .i64 0)]) (fun q=>.blk q.1 63 [.int .i64 mw,.int .i64 mh,.int .i64 mx,.int .i64 my,.int .i64 ms,.slice q.2.2.2.1 mp.length q.2.2.2.2]::.row (.slice q.2.2.2.1 mp.length q.2.2.2.2) 2 1 mp.length (ints .i64 mp)::.blk b2 58 [.bool false,.bool false,.bool false,.bool false,.bool false,.bool false,.bool false,.bool false,.bool false]::.blk g 109 (navE s a)::K.H q.2.2.1) ?_ ?_
  ·refine c_drx [.blk b3 226 [.int .i64 s.x,.int .i64 s.y,.int .i64 s.cf.far,.int .i64 s.cf.step],.blk g 109 (navE s a)] [true,true,true,true,true,true,true,true,true,true,true,true,true,true,true,true,false,false,false,false,false,false,false,false,false,false] [16,17,18,19,20,21,22,23,24,25] Sub.au rfl (by decide) (by decide +kernel) ?_
   repeat' (first|refine x_skip rfl rfl rfl ?_|(refine x_run rfl rfl rfl ?_ ?_;(next=>first|exact trivial|omega))|refine x_nil ?_)
   refine t_weakV ?_
   intro _
   refine z_gvx
   all_goals rw[hp]
   all_goals refine lf rfl rfl rfl (S:=K.H c1) (fun w hw ho=>hck w ho hk1 (by omega) ⟨Ro.row hw Split.au (by refine z_hs)⟩) ?_
   all_goals rintro v S' ⟨c2,hk2,⟨hne,rfl,rfl⟩ | ⟨-,A2,k2,rfl,rfl⟩⟩
   all_goals try exact absurd rfl hne
   all_goals refine z_gvx
   all_goals first|(rename_i q1 q2;exact c_round (q1,q2,c2,A2,k2) hk2 trivial ⟨rfl,rfl,rfl,rfl,trivial⟩ Sub.au)|(rename_i q1 q2;exact c_round (q2,q1,c2,A2,k2) hk2 trivial ⟨rfl,rfl,rfl,rfl,trivial⟩ Sub.au)
  ·rintro⟨b8,b9,c2,A2,k2⟩ hk2
   dsimp only at hk2 ⊢
   refine z_tas
   refine j_outK (S':=.row (.slice A2 mp.length k2) 2 1 mp.length (ints .i64 mp)::.blk g 109 (navE { s with next:=⟨mw,mh,mx,my,ms,mp⟩ } { a with An:=A2,cn:=k2 })::K.H c2) Sub.au ?_
   refine z_rk
   exact⟨rfl,c2,hk2.mono (by omega),A2,k2,[_],.inr rfl,rfl⟩
 ·rw[if_neg hok]
  by_cases hmn:many=0
  ·rw[decide_eq_false (Decidable.not_not.2 hmn)]at iG iG2
   refine z_tas
   refine lf rfl rfl rfl (S:=[.blk g 109 (navE { s with tries:=s.tries+1 } a)]) (fun w hw ho=>hC (s.tries+1) w ho) ?_
   rintro v S' ⟨rfl,rfl⟩
   refine z_tas
   refine c_drx [.blk g 109 (navE { s with tries:=s.tries+1,p:=pNew s.p.gap } a)] [true,true,true,true,true,true,true,true,true,true,true,false,false] [11,12] Sub.au rfl (by decide) (by decide +kernel) ?_
   repeat' (first|refine x_skip rfl rfl rfl ?_|(refine x_run rfl rfl rfl ?_ ?_;(next=>first|exact trivial|omega))|refine x_nil ?_)
   refine t_weakV ?_
   intro _
   refine z_gvx
   refine j_outK (S':=.blk g 109 (navE { s with tries:=s.tries+1,p:=pNew s.p.gap } a)::K.H c1) Sub.au ?_
   refine z_rk
   exact⟨rfl,c1,hk1.mono (by omega),a.An,a.cn,[],.inl ⟨rfl,rfl,rfl,rfl⟩,rfl⟩
  ·rw[decide_eq_true hmn]at iG iG2
   cases cl0
   ·refine z_tas
    refine c_dv (0::1::2::3::4::5::6::7::8::9::10::11::12::13::14::15::16::17::[]) ?_;intro _
    refine z_gvy
    refine lf rfl rfl rfl (S:=[.blk g 109 (navE { s with tries:=s.tries+1 } a)]) (fun w hw ho=>hC (s.tries+1) w ho) ?_
    rintro v S' ⟨rfl,rfl⟩
    refine z_tas
    refine c_drx [.blk g 109 (navE { s with tries:=s.tries+1,p:=pNew s.p.gap } a)] [true,true,true,true,true,true,true,true,true,true,true,false,false] [11,12] Sub.au rfl (by decide) (by decide +kernel) ?_
    repeat' (first|refine x_skip rfl rfl rfl ?_|(refine x_run rfl rfl rfl ?_ ?_;(next=>first|exact trivial|omega))|refine x_nil ?_)
    refine t_weakV ?_
    intro _
    refine z_gvx
    refine j_outK (S':=.blk g 109 (navE { s with tries:=s.tries+1,p:=pNew s.p.gap } a)::K.H c1) Sub.au ?_
    refine z_rk
    exact⟨rfl,c1,hk1.mono (by omega),a.An,a.cn,[],.inl ⟨rfl,rfl,rfl,rfl⟩,rfl⟩
   ·have hcd:code≠0:=fun h=>hok ⟨hmn,rfl,h⟩
    have iE:∀w0 W H t u a b,MS Tryz.prog w0 W H (.binOp .eql t a b u) [.int .i64 code,.int .i64 0] (.bool false) True:=fun _ _ _ _ _ _ _=>msM inferInstance trivial (congrArg Value.bool (by simpa using hcd))
    refine z_tas
    refine c_dv (0::1::2::3::4::5::6::7::8::9::10::11::12::13::14::15::16::17::[]) ?_;intro _
    refine z_gvy
    refine c_joinE2 (X:=Nat×Nat×CaV) (fun q=>CaOk K.ys f K.room q.2.2 (b+2163200+3244800)) (fun q=>[(0,.pointer (some ⟨g,0,none⟩)),(2,.pointer (some ⟨b2,0,none⟩)),(10,.int .i64 code)]) (fun q=>.blk b2 58 [.bool false,.bool false,.bool false,.bool false,.bool false,.bool false,.bool false,.bool false,.bool false]::.blk g 109 (navE s a)::K.H q.2.2) ?_ ?_
    ·refine c_drx [.blk b3 226 [.int .i64 s.x,.int .i64 s.y,.int .i64 s.cf.far,.int .i64 s.cf.step],.blk g 109 (navE s a)] [true,true,true,true,true,true,true,true,true,true,true,true,true,true,true,true,false,false,false,false,false,false,false,false,false,false] [16,17,18,19,20,21,22,23,24,25] Sub.au rfl (by decide) (by decide +kernel) ?_
     repeat' (first|refine x_skip rfl rfl rfl ?_|(refine x_run rfl rfl rfl ?_ ?_;(next=>first|exact trivial|omega))|refine x_nil ?_)
     refine t_weakV ?_
     intro _
     refine z_gvx
     all_goals rw[hp]
     all_goals refine lf rfl rfl rfl (S:=K.H c1) (fun w hw ho=>hck w ho hk1 (by omega) ⟨Ro.row hw Split.au (by refine z_hs)⟩) ?_
     all_goals rintro v S' ⟨c2,hk2,⟨hne,rfl,rfl⟩ | ⟨hz,-⟩⟩
     all_goals try exact absurd hz hcd
     all_goals refine z_gvx
     all_goals (rename_i q1 q2;exact c_round (q1,q2,c2) hk2 trivial ⟨rfl,rfl,rfl,trivial⟩ Sub.au)
    ·rintro⟨b8,b9,c2⟩ hk2
     dsimp only at hk2 ⊢
     refine z_tas
     refine lf rfl rfl rfl (S:=[.blk g 109 (navE { s with tries:=s.tries+1 } a)]) (fun w hw ho=>hC (s.tries+1) w ho) ?_
     rintro v S' ⟨rfl,rfl⟩
     refine z_tas
     refine c_drx [.blk g 109 (navE { s with tries:=s.tries+1,p:=pNew s.p.gap } a)] [true,true,true,true,true,true,true,true,true,true,true,false,false] [11,12] Sub.au rfl (by decide) (by decide +kernel) ?_
     repeat' (first|refine x_skip rfl rfl rfl ?_|(refine x_run rfl rfl rfl ?_ ?_;(next=>first|exact trivial|omega))|refine x_nil ?_)
     refine t_weakV ?_
     intro _
     refine z_gvx
     refine j_outK (S':=.blk g 109 (navE { s with tries:=s.tries+1,p:=pNew s.p.gap } a)::K.H c2) Sub.au ?_
     refine z_rk
     exact⟨rfl,c2,hk2.mono (by omega),a.An,a.cn,[],.inl ⟨rfl,rfl,rfl,rfl⟩,rfl⟩
end Go.Proofs.YthajpemlpmlefaaGreat
