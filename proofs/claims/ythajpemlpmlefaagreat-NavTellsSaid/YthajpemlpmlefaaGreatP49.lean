import Derived.Test.YthajpemlpmlefaaGreatP47
set_option maxHeartbeats 512000000
set_option maxRecDepth 4000
set_option linter.unusedVariables false
set_option linter.unusedSimpArgs false
namespace Go.Proofs.YthajpemlpmlefaaGreat
open Go.RowKit
instance:RowE inpE 9:=⟨fun _=>rfl,by decide⟩
instance:OneE inpE:=⟨fun a u hu=>by simp[inpE]at hu;rcases hu with rfl|rfl|rfl|rfl|rfl|rfl|rfl|rfl|rfl<;>rfl⟩
def stlN(s:NavS)(i:Inp):NavS :=
 let nx:=nextN s.mode i
 let s1:={ s with mode:=nx.1,ins:=s.ins++[i],modes:=s.modes++[nx.1] }
 if nx.2=1 then { s1 with p:=pNew s1.p.gap,tries:=0,fail:=false,void:=false,g:=grd0,deeds:=[] }
  else if nx.2=2 then { s1 with g:=s1.next,bk:=⟨0,0⟩,w:=wNew,deeds:=[⟨1,s1.next,0,0,0,[],⟨0,0,0,0,0⟩⟩],void:=false }
  else if nx.2=3 then { s1 with fail:=i.tried&&!i.stop,void:=false,g:=grd0,deeds:=[] }
  else s1
theorem settleN_eq(s:NavS)(i:Inp)(say:Bool):settleN s i say=if say∨(nextN s.mode i).1≠s.mode then tellN (stlN s i)else (stlN s i,[]):=rfl
theorem stlN_ok{s:NavS}{k:Nat}(h:NavOk s k)(i:Inp)(hl:s.modes.length+1≤k)(hn:i.clear=true→GrdOk s.next∧FarG s.next 0):NavOk (stlN s i) k:=by
 obtain⟨n1,n2,n3⟩:=next_spec h.mode i
 have hlen:=h.len
 have l1:(s.ins++[i]).length=(s.modes++[(nextN s.mode i).1]).length∧(s.modes++[(nextN s.mode i).1]).length≤k:=by
  rw[List.length_append,List.length_append,List.length_singleton,List.length_singleton]
  omega
 unfold stlN
 dsimp only
 split
 ·rename_i hw
  refine⟨h.cf,h.ln,pNew_ok _,h.w,n1,h.xy,fun e=>?_,h.b,h.bn,⟨by show (0:Int)≤0;decide,by show (0:Int)≤k;omega⟩,h.seq,h.time,l1,Nat.zero_le _⟩
  rcases n3 e with q|q<;>omega
 split
 ·rename_i hw
  obtain⟨g1,g2⟩:=hn (n2 hw)
  exact⟨h.cf,h.ln,h.p,wNew_ok k,n1,h.xy,fun _=>⟨g1,g2.up (Nat.zero_le k)⟩,⟨by show (0:Int)≤0;decide,by show (0:Int)≤1099511627776;decide⟩,⟨by show (0:Int)≤0;decide,by show (0:Int)≤6*(k:Int);omega⟩,h.tr,h.seq,h.time,l1,by show 1≤6*k;omega⟩
 split
 ·rename_i hw
  refine⟨h.cf,h.ln,h.p,h.w,n1,h.xy,fun e=>?_,h.b,h.bn,h.tr,h.seq,h.time,l1,Nat.zero_le _⟩
  rcases n3 e with q|q<;>omega
 ·rename_i w1 w2 w3
  refine⟨h.cf,h.ln,h.p,h.w,n1,h.xy,fun e=>?_,h.b,h.bn,h.tr,h.seq,h.time,l1,h.dl⟩
  rcases n3 e with q|q
  ·exact absurd q w2
  ·exact h.g q.2
@[reducible] def insH(A:Option Addr)(c:Nat)(l:List Inp):HE:=.row (.slice A l.length c) 58 9 l.length (flat inpE l)
@[reducible] def mdsH(A:Option Addr)(c:Nat)(l:List Int):HE:=.row (.slice A l.length c) 3 1 l.length (ints .i64 l)
def StlR(g:Nat)(a:NvA)(s s':NavS)(S':List HE):Prop:=∃a2 ds2,(a2.ptr=a.ptr∧a2.An=a.An∧a2.cn=a.cn)∧ds2.length=s'.deeds.length ∧
 ((a2.Ag=a.Ag∧a2.cg=a.cg∧s'.g.p=s.g.p)∨(a2.Ag=none∧a2.cg=0∧s'.g.p=[])∨(a2.Ag=a.An∧a2.cg=a.cn∧s'.g.p=s.next.p)) ∧
 S'=[.blk g 109 (navE s' a2),dedH a2.Ad a2.cd ds2,insH a2.Ai a2.ci s'.ins,mdsH a2.Am a2.cm s'.modes]
attribute [local irreducible] OJ J HdJ Code.wpIn wpListIn Oper.wpIn bodyPost CallsIn Does
theorem settle_t(g k:Nat)(s:NavS)(a:NvA)(ds:List DedX)(i:Inp)(say:Bool)(w:World)(hown:Own [.blk g 109 (navE s a),dedH a.Ad a.cd ds,insH a.Ai a.ci s.ins,mdsH a.Am a.cm s.modes] w)(hN:NavOk s k)(hk:k≤16777217)(hl:s.modes.length+1≤k)(hn:i.clear=true→GrdOk s.next∧FarG s.next 0)(hd:ds.length=s.deeds.length)
  (hr:RoA w (blocks [.blk g 109 (navE s a),dedH a.Ad a.cd ds,insH a.Ai a.ci s.ins,mdsH a.Am a.cm s.modes]) a.Ag s.g.p.length a.cg 1 (ints .i64 s.g.p))
  (hx:RoA w (blocks [.blk g 109 (navE s a),dedH a.Ad a.cd ds,insH a.Ai a.ci s.ins,mdsH a.Am a.cm s.modes]) a.An s.next.p.length a.cn 1 (ints .i64 s.next.p)) :
  Does Tryz.prog 37 [.pointer (some ⟨g,0,none⟩),.agg (inpE i).toArray,.bool say] [.blk g 109 (navE s a),dedH a.Ad a.cd ds,insH a.Ai a.ci s.ins,mdsH a.Am a.cm s.modes] w
   (fun v S'=>∃So S2,OutR (settleN s i say).2 v So∧S'=So++S2∧StlR g a s (settleN s i say).1 S2):=by
 have hOk:=stlN_ok hN i hl hn
 have i1:=nv_p hN.nvl
 have i2:=nv_w hN.nvl
 have iN:=next_cv s.mode i
 rw[settleN_eq]
 unfold stlN at *
 dsimp only at *
 generalize hnx:nextN s.mode i=nx at *
 obtain⟨m2,act⟩:=nx
 dsimp only at *
 have hll:=hN.len
 have iU:UnE inpE (inpE i) i:=⟨rfl⟩
 refine does_of Tryz.func37 rfl Tryz.ntmps37 rfl hown (fun _=>?_)
 simp only[slots]
 refine z_tas
 rename_i b4
 refine c_drx _ [true,true,true,true,true,false,false,false,false,false,false] [5,6,7,8,9,10] (Sub.refl _) rfl (by decide) (by decide +kernel) ?_
 repeat' (first|refine x_skip rfl rfl rfl ?_|(refine x_run rfl rfl rfl ?_ ?_;(next=>first|exact trivial|omega))|refine x_nil ?_)
 refine t_weakV ?_
 intro _
 refine z_gvx
 refine c_joinE2 (X:=(Option Addr×Nat)×Option Addr×Nat) (fun _=>True) (fun _=>[(0,.pointer (some ⟨g,0,none⟩)),(2,.bool say),(4,.pointer (some ⟨b4,0,none⟩)),(7,.int .i64 m2),(8,.int .i64 act),(9,.int .i64 s.mode)])
  (fun q=>[.blk b4 58 (inpE i),.blk g 109 (navE { s with mode:=m2,ins:=s.ins++[i],modes:=s.modes++[m2] } { a with Ai:=q.1.1,ci:=q.1.2,Am:=q.2.1,cm:=q.2.2 }),dedH a.Ad a.cd ds,insH q.1.1 q.1.2 (s.ins++[i]),mdsH q.2.1 q.2.2 (s.modes++[m2])]) ?_ ?_
 ·dsimp only[insH,mdsH]
  refine c_dn [.blk b4 58 (inpE i),.blk g 109 _] (0::1::2::3::4::5::6::7::8::9::10::11::12::13::14::15::16::17::18::19::20::21::[]) (Sub.cons (.here _ _) (Sub.cons (.here _ _) (Sub.nil _))) ?_
  intro _
  refine t_pickE 0 0 rfl (by decide +kernel) rfl rfl rfl ?_ rfl (by first|exact Sub.refl _|exact Sub.au) (by decide +kernel) ?_
  ·first|exact trivial|omega
  refine t_pickE 0 1 rfl (by decide +kernel) rfl rfl rfl ?_ rfl (by first|exact Sub.refl _|exact Sub.au) (by decide +kernel) ?_
  ·first|exact trivial|omega
  refine t_pickE 0 2 rfl (by decide +kernel) rfl rfl rfl ?_ rfl (by first|exact Sub.refl _|exact Sub.au) (by decide +kernel) ?_
  ·first|exact trivial|omega
  refine t_pickE 0 3 rfl (by decide +kernel) rfl rfl rfl ?_ rfl (by first|exact Sub.refl _|exact Sub.au) (by decide +kernel) ?_
  ·first|exact trivial|omega
  refine t_pickE 0 4 rfl (by decide +kernel) rfl rfl rfl ?_ rfl (by first|exact Sub.refl _|exact Sub.au) (by decide +kernel) ?_
  ·first|exact trivial|omega
  refine t_pickE 4 9 rfl (by decide +kernel) rfl rfl rfl ?_ rfl (by first|exact Sub.refl _|exact Sub.au) (by decide +kernel) ?_
  ·first|exact trivial|omega
  refine t_pickE 4 10 rfl (by decide +kernel) rfl rfl rfl ?_ rfl (by first|exact Sub.refl _|exact Sub.au) (by decide +kernel) ?_
  ·first|exact trivial|omega
  refine t_pickE 4 11 rfl (by decide +kernel) rfl rfl rfl ?_ rfl (by first|exact Sub.refl _|exact Sub.au) (by decide +kernel) ?_
  ·first|exact trivial|omega
  refine t_pickE 5 13 rfl (by decide +kernel) rfl rfl rfl ?_ rfl (by first|exact Sub.refl _|exact Sub.au) (by decide +kernel) ?_
  ·first|exact trivial|omega
  refine t_toM [false,false,false,false,false,true,true,false,false,false,false,false,true,false,false,false,false,false,false,false,false,false] ?_
  repeat (first|(refine t_lookE 0 rfl rfl rfl rfl rfl rfl ?_ ?_ ?_ ?_;(next=>first|exact trivial|omega);(next=>decide +kernel);(next=>first|exact Sub.refl _|exact Sub.au))|(refine t_lookE 1 rfl rfl rfl rfl rfl rfl ?_ ?_ ?_ ?_;(next=>first|exact trivial|omega);(next=>decide +kernel);(next=>first|exact Sub.refl _|exact Sub.au))|(refine t_lookE 2 rfl rfl rfl rfl rfl rfl ?_ ?_ ?_ ?_;(next=>first|exact trivial|omega);(next=>decide +kernel);(next=>first|exact Sub.refl _|exact Sub.au))|(refine t_lookE 3 rfl rfl rfl rfl rfl rfl ?_ ?_ ?_ ?_;(next=>first|exact trivial|omega);(next=>decide +kernel);(next=>first|exact Sub.refl _|exact Sub.au))|(refine t_lookE 4 rfl rfl rfl rfl rfl rfl ?_ ?_ ?_ ?_;(next=>first|exact trivial|omega);(next=>decide +kernel);(next=>first|exact Sub.refl _|exact Sub.au))|(refine t_lookE 5 rfl rfl rfl rfl rfl rfl ?_ ?_ ?_ ?_;(next=>first|exact trivial|omega);(next=>decide +kernel);(next=>first|exact Sub.refl _|exact Sub.au))|(refine t_lookE 6 rfl rfl rfl rfl rfl rfl ?_ ?_ ?_ ?_;(next=>first|exact trivial|omega);(next=>decide +kernel);(next=>first|exact Sub.refl _|exact Sub.au))|(refine t_lookE 7 rfl rfl rfl rfl rfl rfl ?_ ?_ ?_ ?_;(next=>first|exact trivial|omega);(next=>decide +kernel);(next=>first|exact Sub.refl _|exact Sub.au))|(refine t_lookE 8 rfl rfl rfl rfl rfl rfl ?_ ?_ ?_ ?_;(next=>first|exact trivial|omega);(next=>decide +kernel);(next=>first|exact Sub.refl _|exact Sub.au))|(refine t_lookE 9 rfl rfl rfl rfl rfl rfl ?_ ?_ ?_ ?_;(next=>first|exact trivial|omega);(next=>decide +kernel);(next=>first|exact Sub.refl _|exact Sub.au))|(refine t_lookE 10 rfl rfl rfl rfl rfl rfl ?_ ?_ ?_ ?_;(next=>first|exact trivial|omega);(next=>decide +kernel);(next=>first|exact Sub.refl _|exact Sub.au))|(refine t_lookE 11 rfl rfl rfl rfl rfl rfl ?_ ?_ ?_ ?_;(next=>first|exact trivial|omega);(next=>decide +kernel);(next=>first|exact Sub.refl _|exact Sub.au))|(refine t_lookE 12 rfl rfl rfl rfl rfl rfl ?_ ?_ ?_ ?_;(next=>first|exact trivial|omega);(next=>decide +kernel);(next=>first|exact Sub.refl _|exact Sub.au))|(refine t_lookE 13 rfl rfl rfl rfl rfl rfl ?_ ?_ ?_ ?_;(next=>first|exact trivial|omega);(next=>decide +kernel);(next=>first|exact Sub.refl _|exact Sub.au)))
  repeat' (first|refine t_tail ?_|refine t_done ?_|(first|(refine t_look 0 rfl rfl rfl rfl rfl rfl ?_ ?_ ?_ ?_;(next=>first|exact trivial|omega);(next=>decide +kernel);(next=>first|exact Sub.refl _|exact Sub.au))|(refine t_look 1 rfl rfl rfl rfl rfl rfl ?_ ?_ ?_ ?_;(next=>first|exact trivial|omega);(next=>decide +kernel);(next=>first|exact Sub.refl _|exact Sub.au))|(refine t_look 2 rfl rfl rfl rfl rfl rfl ?_ ?_ ?_ ?_;(next=>first|exact trivial|omega);(next=>decide +kernel);(next=>first|exact Sub.refl _|exact Sub.au))|(refine t_look 3 rfl rfl rfl rfl rfl rfl ?_ ?_ ?_ ?_;(next=>first|exact trivial|omega);(next=>decide +kernel);(next=>first|exact Sub.refl _|exact Sub.au))|(refine t_look 4 rfl rfl rfl rfl rfl rfl ?_ ?_ ?_ ?_;(next=>first|exact trivial|omega);(next=>decide +kernel);(next=>first|exact Sub.refl _|exact Sub.au))|(refine t_look 5 rfl rfl rfl rfl rfl rfl ?_ ?_ ?_ ?_;(next=>first|exact trivial|omega);(next=>decide +kernel);(next=>first|exact Sub.refl _|exact Sub.au))|(refine t_look 6 rfl rfl rfl rfl rfl rfl ?_ ?_ ?_ ?_;(next=>first|exact trivial|omega);(next=>decide +kernel);(next=>first|exact Sub.refl _|exact Sub.au))|(refine t_look 7 rfl rfl rfl rfl rfl rfl ?_ ?_ ?_ ?_;(next=>first|exact trivial|omega);(next=>decide +kernel);(next=>first|exact Sub.refl _|exact Sub.au))|(refine t_look 8 rfl rfl rfl rfl rfl rfl ?_ ?_ ?_ ?_;(next=>first|exact trivial|omega);(next=>decide +kernel);(next=>first|exact Sub.refl _|exact Sub.au))|(refine t_look 9 rfl rfl rfl rfl rfl rfl ?_ ?_ ?_ ?_;(next=>first|exact trivial|omega);(next=>decide +kernel);(next=>first|exact Sub.refl _|exact Sub.au))|(refine t_look 10 rfl rfl rfl rfl rfl rfl ?_ ?_ ?_ ?_;(next=>first|exact trivial|omega);(next=>decide +kernel);(next=>first|exact Sub.refl _|exact Sub.au))|(refine t_look 11 rfl rfl rfl rfl rfl rfl ?_ ?_ ?_ ?_;(next=>first|exact trivial|omega);(next=>decide +kernel);(next=>first|exact Sub.refl _|exact Sub.au))|(refine t_look 12 rfl rfl rfl rfl rfl rfl ?_ ?_ ?_ ?_;(next=>first|exact trivial|omega);(next=>decide +kernel);(next=>first|exact Sub.refl _|exact Sub.au))|(refine t_look 13 rfl rfl rfl rfl rfl rfl ?_ ?_ ?_ ?_;(next=>first|exact trivial|omega);(next=>decide +kernel);(next=>first|exact Sub.refl _|exact Sub.au)))|(refine t_all _ rfl rfl ?_)|refine allP_cons ?_ ?_|exact allP_nil|(refine t_last (by decide +kernel) ?_;(refine t_nrm (rest':=?_) ?_ ?_;rotate_left;(next=>repeat (first|exact era_head _ _|(refine era_step (r':=?_) ?_ ?_;rotate_left;(next=>decide))))))|(refine t_next ?_ ?_;(next=>first|exact Sub.refl _|exact Sub.au);(refine t_nrm (rest':=?_) ?_ ?_;rotate_left;(next=>repeat (first|exact era_head _ _|(refine era_step (r':=?_) ?_ ?_;rotate_left;(next=>decide))))))|(first|(first|refine j_app ?_|refine cc ?_|((first|refine lms rfl rfl rfl ?_ ?_|refine lss rfl rfl ?_ ?_|refine lns rfl rfl rfl ?_ ?_|refine lap rfl rfl rfl rfl rfl ?_ rfl ?_);(next=>first|exact trivial|omega);intros)|refine c_true rfl ?_|refine c_false rfl ?_|refine c_in_other rfl ?_|refine l_nil ?_|refine l_skip rfl rfl rfl ?_|refine l_skip0 rfl rfl ?_|refine lbd rfl rfl (by kernel_rfl) rfl ?_|(refine lsl rfl rfl rfl rfl (by kernel_rfl) rfl rfl ?_;intros)|(refine lsl0 rfl rfl ?_;intros)|(refine lix rfl (by omega) ?_;rintro _ rfl)|(refine lixr rfl (by assumption) (by omega) ?_;rintro _ _ rfl _)|(refine c_drw rfl (by decide) (by decide +kernel) ?_;(repeat (first|(refine hms rfl rfl rfl ?_ ?_;(next=>first|exact trivial|omega))|refine h_skip rfl rfl rfl ?_|(refine hmw rfl rfl rfl ?_ ?_;(next=>first|exact trivial|omega))));refine h_nil ?_)|(refine c_drp rfl (by decide) (by decide +kernel) ?_;(repeat (first|(refine p_run rfl rfl rfl ?_ ?_;(next=>first|exact trivial|omega))|refine p_skip rfl rfl rfl ?_));refine p_nil ?_))|(refine lxv rfl rfl rfl ?_ ?_;(next=>first|exact trivial|omega))|refine lba rfl rfl (by kernel_rfl) rfl ?_|(refine lcv rfl rfl rfl ?_ ?_;(next=>first|exact trivial|omega))|refine lpT rfl rfl rfl rfl ?_|refine lpF rfl rfl rfl rfl ?_|((fail_if_success refine l_lit true rfl rfl rfl ?_);(fail_if_success refine l_lit false rfl rfl rfl ?_);refine l_gd rfl rfl rfl ?_ ?_<;>intro _<;>try (exfalso;first|contradiction|omega))|(refine c_if rfl ?_ ?_<;>intro _<;>try (exfalso;first|contradiction|omega))|(refine lmw rfl rfl rfl ?_ ?_;(next=>first|exact trivial|omega)))|fail)
  all_goals first|(rename_i A1 c1 A2 c2;exact c_round ((A1,c1),A2,c2) trivial trivial ⟨rfl,rfl,rfl,rfl,rfl,rfl,trivial⟩ (Sub.cons (.there _ (.there _ (.here _ _))) (Sub.cons (.there _ (.there _ (.here _ _))) (Sub.cons (.there _ (.there _ (.here _ _))) (Sub.cons (.there _ (.there _ (.here _ _))) (Sub.cons (.there _ (.there _ (.here _ _))) (Sub.nil _)))))))|(rename_i A1 c1 bb A2 c2;exact c_round ((A1,c1),A2,c2) trivial trivial ⟨rfl,rfl,rfl,rfl,rfl,rfl,trivial⟩ (Sub.cons (.there _ (.there _ (.here _ _))) (Sub.cons (.there _ (.there _ (.here _ _))) (Sub.cons (.there _ (.there _ (.here _ _))) (Sub.cons (.there _ (.there _ (.here _ _))) (Sub.cons (.there _ (.there _ (.here _ _))) (Sub.nil _)))))))
 ·rintro⟨⟨A3,c3⟩,A4,c4⟩ -
  dsimp only
  have i1:=nv_p hN.nvl
  by_cases hA:act=1
  ·subst hA
   rw[if_pos rfl]at *
   have hpL:NvL ({ s with mode:=m2,ins:=s.ins++[i],modes:=s.modes++[m2],p:=pNew s.p.gap }:NavS):=⟨(pNew_ok s.p.gap).len,hN.nvl.wl⟩
   have i9:=nv_p hpL
   dsimp only at i9
   refine z_tas
   refine lf rfl rfl rfl (S:=[.blk g 109 (navE { s with mode:=m2,ins:=s.ins++[i],modes:=s.modes++[m2] } { a with Ai:=A3,ci:=c3,Am:=A4,cm:=c4 })]) (fun w hw ho=>n_pclear g { s with mode:=m2,ins:=s.ins++[i],modes:=s.modes++[m2] } { a with Ai:=A3,ci:=c3,Am:=A4,cm:=c4 } w ho hN.p) ?_
   rintro v S' ⟨rfl,rfl⟩
   dsimp only
   have hT:=fun w ho hr=>tell_any g k ({ s with mode:=m2,ins:=s.ins++[i],modes:=s.modes++[m2],p:=pNew s.p.gap,tries:=0,fail:=false,void:=false,g:=grd0,deeds:=[] }:NavS) ({ a with Ag:=none,cg:=0,Ad:=none,cd:=0,Ai:=A3,ci:=c3,Am:=A4,cm:=c4 }:NvA) w ho hOk hk hr
   by_cases hm:say=true∨m2≠s.mode
   ·rw[if_pos hm]
    refine z_tas
    all_goals try (exfalso;rcases hm with hm|hm<;>simp_all;done)
    all_goals refine j_nil (e:=173) (size:=16) ?_
    all_goals refine lfn (S:=[.blk g 109 (navE ({ s with mode:=m2,ins:=s.ins++[i],modes:=s.modes++[m2],p:=pNew s.p.gap,tries:=0,fail:=false,void:=false,g:=grd0,deeds:=[] }:NavS) ({ a with Ag:=none,cg:=0,Ad:=none,cd:=0,Ai:=A3,ci:=c3,Am:=A4,cm:=c4 }:NvA))]) rfl rfl (Split.cons (.there _ (.here _ _)) (Split.nil _)) rfl (fun w hw ho=>hT w ho ⟨Ro.nil _ _ _⟩) ?_
    all_goals rintro v S' ⟨So,⟨A5,c5,rfl,rfl⟩,rfl⟩
    all_goals refine z_tas
    all_goals exact j_out1 (S':=[.row (.slice A5 (tellN ({ s with mode:=m2,ins:=s.ins++[i],modes:=s.modes++[m2],p:=pNew s.p.gap,tries:=0,fail:=false,void:=false,g:=grd0,deeds:=[] }:NavS)).2.length c5) 50 6 (tellN ({ s with mode:=m2,ins:=s.ins++[i],modes:=s.modes++[m2],p:=pNew s.p.gap,tries:=0,fail:=false,void:=false,g:=grd0,deeds:=[] }:NavS)).2.length (flat frmE (tellN ({ s with mode:=m2,ins:=s.ins++[i],modes:=s.modes++[m2],p:=pNew s.p.gap,tries:=0,fail:=false,void:=false,g:=grd0,deeds:=[] }:NavS)).2),.blk g 109 (navE (tellN ({ s with mode:=m2,ins:=s.ins++[i],modes:=s.modes++[m2],p:=pNew s.p.gap,tries:=0,fail:=false,void:=false,g:=grd0,deeds:=[] }:NavS)).1 ({ a with Ag:=none,cg:=0,Ad:=none,cd:=0,Ai:=A3,ci:=c3,Am:=A4,cm:=c4 }:NvA)),dedH none 0 [],insH A3 c3 (s.ins++[i]),mdsH A4 c4 (s.modes++[m2])]) rfl rfl (Sub.cons (.here _ _) (Sub.cons (.here _ _) (Sub.cons (.here _ _) (Sub.cons (.there _ (.there _ (.here _ _))) (Sub.cons (.there _ (.there _ (.here _ _))) (Sub.nil _)))))) ⟨[_],[_,_,_,_],⟨A5,c5,rfl,rfl⟩,rfl,({ a with Ag:=none,cg:=0,Ad:=none,cd:=0,Ai:=A3,ci:=c3,Am:=A4,cm:=c4 }:NvA),[],⟨rfl,rfl,rfl⟩,rfl,.inr (.inl ⟨rfl,rfl,rfl⟩),rfl⟩
   ·rw[if_neg hm]
    refine z_tas
    all_goals try (exfalso;apply hm;simp_all;done)
    all_goals refine j_nil (e:=173) (size:=16) ?_
    all_goals refine j_nil (e:=50) (size:=6) ?_
    all_goals exact j_out1 (S':=[.row (.slice none 0 0) 50 6 0 (flat frmE []),.blk g 109 (navE ({ s with mode:=m2,ins:=s.ins++[i],modes:=s.modes++[m2],p:=pNew s.p.gap,tries:=0,fail:=false,void:=false,g:=grd0,deeds:=[] }:NavS) ({ a with Ag:=none,cg:=0,Ad:=none,cd:=0,Ai:=A3,ci:=c3,Am:=A4,cm:=c4 }:NvA)),dedH none 0 [],insH A3 c3 (s.ins++[i]),mdsH A4 c4 (s.modes++[m2])]) rfl rfl (Sub.cons (.here _ _) (Sub.cons (.there _ (.here _ _)) (Sub.cons (.here _ _) (Sub.cons (.there _ (.there _ (.here _ _))) (Sub.cons (.there _ (.there _ (.here _ _))) (Sub.nil _)))))) ⟨[_],[_,_,_,_],⟨none,0,rfl,rfl⟩,rfl,({ a with Ag:=none,cg:=0,Ad:=none,cd:=0,Ai:=A3,ci:=c3,Am:=A4,cm:=c4 }:NvA),[],⟨rfl,rfl,rfl⟩,rfl,.inr (.inl ⟨rfl,rfl,rfl⟩),rfl⟩
  by_cases hB:act=2
  ·subst hB
   rw[if_neg hA,if_pos rfl]at *
   have hW:=fun w=>wnew_any s.cf w hN.marks
   have iw9:LenE (ints .i64 wNew.l) 32:=⟨by rw[ints_len];rfl⟩
   have iw8:SameLen (watT s.cf wNew []) 40:=⟨by simp only[watT,List.length_cons,List.length_append,iw9.h,List.length_nil]⟩
   refine z_tas
   refine lfv rfl rfl rfl (fun w hw=>hW w) ?_
   by_cases hm:say=true∨m2≠s.mode
   ·rw[if_pos hm]
    refine z_tas
    all_goals try (exfalso;rcases hm with hm|hm<;>simp_all;done)
    all_goals first|(rename_i bd h1;refine lfn (S:=[.blk g 109 (navE ({ s with mode:=m2,ins:=s.ins++[i],modes:=s.modes++[m2],g:=s.next,bk:=⟨0,0⟩,w:=wNew,deeds:=[⟨1,s.next,0,0,0,[],⟨0,0,0,0,0⟩⟩],void:=false }:NavS) ({ a with Ag:=a.An,cg:=a.cn,Ad:=some ⟨bd,0,none⟩,cd:=1,Ai:=A3,ci:=c3,Am:=A4,cm:=c4 }:NvA))]) rfl rfl (Split.cons (.there _ (.there _ (.here _ _))) (Split.nil _)) rfl (fun w hw ho=>tell_any g k ({ s with mode:=m2,ins:=s.ins++[i],modes:=s.modes++[m2],g:=s.next,bk:=⟨0,0⟩,w:=wNew,deeds:=[⟨1,s.next,0,0,0,[],⟨0,0,0,0,0⟩⟩],void:=false }:NavS) ({ a with Ag:=a.An,cg:=a.cn,Ad:=some ⟨bd,0,none⟩,cd:=1,Ai:=A3,ci:=c3,Am:=A4,cm:=c4 }:NvA) w ho hOk hk ⟨hx.h.go hw (Split.cons (.there _ (.there _ (.here _ _))) (Split.nil _))⟩) ?_;rintro v S' ⟨So,⟨A5,c5,rfl,rfl⟩,rfl⟩;refine z_tas;exact j_out1 (S':=[.row (.slice A5 (tellN ({ s with mode:=m2,ins:=s.ins++[i],modes:=s.modes++[m2],g:=s.next,bk:=⟨0,0⟩,w:=wNew,deeds:=[⟨1,s.next,0,0,0,[],⟨0,0,0,0,0⟩⟩],void:=false }:NavS)).2.length c5) 50 6 (tellN ({ s with mode:=m2,ins:=s.ins++[i],modes:=s.modes++[m2],g:=s.next,bk:=⟨0,0⟩,w:=wNew,deeds:=[⟨1,s.next,0,0,0,[],⟨0,0,0,0,0⟩⟩],void:=false }:NavS)).2.length (flat frmE (tellN ({ s with mode:=m2,ins:=s.ins++[i],modes:=s.modes++[m2],g:=s.next,bk:=⟨0,0⟩,w:=wNew,deeds:=[⟨1,s.next,0,0,0,[],⟨0,0,0,0,0⟩⟩],void:=false }:NavS)).2),.blk g 109 (navE (tellN ({ s with mode:=m2,ins:=s.ins++[i],modes:=s.modes++[m2],g:=s.next,bk:=⟨0,0⟩,w:=wNew,deeds:=[⟨1,s.next,0,0,0,[],⟨0,0,0,0,0⟩⟩],void:=false }:NavS)).1 ({ a with Ag:=a.An,cg:=a.cn,Ad:=some ⟨bd,0,none⟩,cd:=1,Ai:=A3,ci:=c3,Am:=A4,cm:=c4 }:NvA)),dedH (some ⟨bd,0,none⟩) 1 [⟨1,s.next.w,s.next.h,s.next.x,s.next.y,s.next.st,a.An,s.next.p.length,a.cn,0,0,0,none,0,0,0,0,0,0,0⟩],insH A3 c3 (s.ins++[i]),mdsH A4 c4 (s.modes++[m2])]) rfl rfl (Sub.cons (.here _ _) (Sub.cons (.here _ _) (Sub.cons (.here _ _) (Sub.cons (.there _ (.there _ (.here _ _))) (Sub.cons (.there _ (.there _ (.here _ _))) (Sub.nil _)))))) ⟨[_],[_,_,_,_],⟨A5,c5,rfl,rfl⟩,rfl,({ a with Ag:=a.An,cg:=a.cn,Ad:=some ⟨bd,0,none⟩,cd:=1,Ai:=A3,ci:=c3,Am:=A4,cm:=c4 }:NvA),[⟨1,s.next.w,s.next.h,s.next.x,s.next.y,s.next.st,a.An,s.next.p.length,a.cn,0,0,0,none,0,0,0,0,0,0,0⟩],⟨rfl,rfl,rfl⟩,rfl,.inr (.inr ⟨rfl,rfl,rfl⟩),rfl⟩)|(rename_i bd h1 h2;refine lfn (S:=[.blk g 109 (navE ({ s with mode:=m2,ins:=s.ins++[i],modes:=s.modes++[m2],g:=s.next,bk:=⟨0,0⟩,w:=wNew,deeds:=[⟨1,s.next,0,0,0,[],⟨0,0,0,0,0⟩⟩],void:=false }:NavS) ({ a with Ag:=a.An,cg:=a.cn,Ad:=some ⟨bd,0,none⟩,cd:=1,Ai:=A3,ci:=c3,Am:=A4,cm:=c4 }:NvA))]) rfl rfl (Split.cons (.there _ (.there _ (.here _ _))) (Split.nil _)) rfl (fun w hw ho=>tell_any g k ({ s with mode:=m2,ins:=s.ins++[i],modes:=s.modes++[m2],g:=s.next,bk:=⟨0,0⟩,w:=wNew,deeds:=[⟨1,s.next,0,0,0,[],⟨0,0,0,0,0⟩⟩],void:=false }:NavS) ({ a with Ag:=a.An,cg:=a.cn,Ad:=some ⟨bd,0,none⟩,cd:=1,Ai:=A3,ci:=c3,Am:=A4,cm:=c4 }:NvA) w ho hOk hk ⟨hx.h.go hw (Split.cons (.there _ (.there _ (.here _ _))) (Split.nil _))⟩) ?_;rintro v S' ⟨So,⟨A5,c5,rfl,rfl⟩,rfl⟩;refine z_tas;exact j_out1 (S':=[.row (.slice A5 (tellN ({ s with mode:=m2,ins:=s.ins++[i],modes:=s.modes++[m2],g:=s.next,bk:=⟨0,0⟩,w:=wNew,deeds:=[⟨1,s.next,0,0,0,[],⟨0,0,0,0,0⟩⟩],void:=false }:NavS)).2.length c5) 50 6 (tellN ({ s with mode:=m2,ins:=s.ins++[i],modes:=s.modes++[m2],g:=s.next,bk:=⟨0,0⟩,w:=wNew,deeds:=[⟨1,s.next,0,0,0,[],⟨0,0,0,0,0⟩⟩],void:=false }:NavS)).2.length (flat frmE (tellN ({ s with mode:=m2,ins:=s.ins++[i],modes:=s.modes++[m2],g:=s.next,bk:=⟨0,0⟩,w:=wNew,deeds:=[⟨1,s.next,0,0,0,[],⟨0,0,0,0,0⟩⟩],void:=false }:NavS)).2),.blk g 109 (navE (tellN ({ s with mode:=m2,ins:=s.ins++[i],modes:=s.modes++[m2],g:=s.next,bk:=⟨0,0⟩,w:=wNew,deeds:=[⟨1,s.next,0,0,0,[],⟨0,0,0,0,0⟩⟩],void:=false }:NavS)).1 ({ a with Ag:=a.An,cg:=a.cn,Ad:=some ⟨bd,0,none⟩,cd:=1,Ai:=A3,ci:=c3,Am:=A4,cm:=c4 }:NvA)),dedH (some ⟨bd,0,none⟩) 1 [⟨1,s.next.w,s.next.h,s.next.x,s.next.y,s.next.st,a.An,s.next.p.length,a.cn,0,0,0,none,0,0,0,0,0,0,0⟩],insH A3 c3 (s.ins++[i]),mdsH A4 c4 (s.modes++[m2])]) rfl rfl (Sub.cons (.here _ _) (Sub.cons (.here _ _) (Sub.cons (.here _ _) (Sub.cons (.there _ (.there _ (.here _ _))) (Sub.cons (.there _ (.there _ (.here _ _))) (Sub.nil _)))))) ⟨[_],[_,_,_,_],⟨A5,c5,rfl,rfl⟩,rfl,({ a with Ag:=a.An,cg:=a.cn,Ad:=some ⟨bd,0,none⟩,cd:=1,Ai:=A3,ci:=c3,Am:=A4,cm:=c4 }:NvA),[⟨1,s.next.w,s.next.h,s.next.x,s.next.y,s.next.st,a.An,s.next.p.length,a.cn,0,0,0,none,0,0,0,0,0,0,0⟩],⟨rfl,rfl,rfl⟩,rfl,.inr (.inr ⟨rfl,rfl,rfl⟩),rfl⟩)
   ·rw[if_neg hm]
    refine z_tas
    all_goals try (exfalso;apply hm;simp_all;done)
    all_goals first|(rename_i bd h1 h2;refine j_nil (e:=50) (size:=6) ?_;exact j_out1 (S':=[.row (.slice none 0 0) 50 6 0 (flat frmE []),.blk g 109 (navE ({ s with mode:=m2,ins:=s.ins++[i],modes:=s.modes++[m2],g:=s.next,bk:=⟨0,0⟩,w:=wNew,deeds:=[⟨1,s.next,0,0,0,[],⟨0,0,0,0,0⟩⟩],void:=false }:NavS) ({ a with Ag:=a.An,cg:=a.cn,Ad:=some ⟨bd,0,none⟩,cd:=1,Ai:=A3,ci:=c3,Am:=A4,cm:=c4 }:NvA)),dedH (some ⟨bd,0,none⟩) 1 [⟨1,s.next.w,s.next.h,s.next.x,s.next.y,s.next.st,a.An,s.next.p.length,a.cn,0,0,0,none,0,0,0,0,0,0,0⟩],insH A3 c3 (s.ins++[i]),mdsH A4 c4 (s.modes++[m2])]) rfl rfl (Sub.cons (.here _ _) (Sub.cons (.there _ (.there _ (.here _ _))) (Sub.cons (.here _ _) (Sub.cons (.there _ (.there _ (.here _ _))) (Sub.cons (.there _ (.there _ (.here _ _))) (Sub.nil _)))))) ⟨[_],[_,_,_,_],⟨none,0,rfl,rfl⟩,rfl,({ a with Ag:=a.An,cg:=a.cn,Ad:=some ⟨bd,0,none⟩,cd:=1,Ai:=A3,ci:=c3,Am:=A4,cm:=c4 }:NvA),[⟨1,s.next.w,s.next.h,s.next.x,s.next.y,s.next.st,a.An,s.next.p.length,a.cn,0,0,0,none,0,0,0,0,0,0,0⟩],⟨rfl,rfl,rfl⟩,rfl,.inr (.inr ⟨rfl,rfl,rfl⟩),rfl⟩)|(rename_i bd h1;refine j_nil (e:=50) (size:=6) ?_;exact j_out1 (S':=[.row (.slice none 0 0) 50 6 0 (flat frmE []),.blk g 109 (navE ({ s with mode:=m2,ins:=s.ins++[i],modes:=s.modes++[m2],g:=s.next,bk:=⟨0,0⟩,w:=wNew,deeds:=[⟨1,s.next,0,0,0,[],⟨0,0,0,0,0⟩⟩],void:=false }:NavS) ({ a with Ag:=a.An,cg:=a.cn,Ad:=some ⟨bd,0,none⟩,cd:=1,Ai:=A3,ci:=c3,Am:=A4,cm:=c4 }:NvA)),dedH (some ⟨bd,0,none⟩) 1 [⟨1,s.next.w,s.next.h,s.next.x,s.next.y,s.next.st,a.An,s.next.p.length,a.cn,0,0,0,none,0,0,0,0,0,0,0⟩],insH A3 c3 (s.ins++[i]),mdsH A4 c4 (s.modes++[m2])]) rfl rfl (Sub.cons (.here _ _) (Sub.cons (.there _ (.there _ (.here _ _))) (Sub.cons (.here _ _) (Sub.cons (.there _ (.there _ (.here _ _))) (Sub.cons (.there _ (.there _ (.here _ _))) (Sub.nil _)))))) ⟨[_],[_,_,_,_],⟨none,0,rfl,rfl⟩,rfl,({ a with Ag:=a.An,cg:=a.cn,Ad:=some ⟨bd,0,none⟩,cd:=1,Ai:=A3,ci:=c3,Am:=A4,cm:=c4 }:NvA),[⟨1,s.next.w,s.next.h,s.next.x,s.next.y,s.next.st,a.An,s.next.p.length,a.cn,0,0,0,none,0,0,0,0,0,0,0⟩],⟨rfl,rfl,rfl⟩,rfl,.inr (.inr ⟨rfl,rfl,rfl⟩),rfl⟩)
  by_cases hC:act=3
  ·subst hC
   rw[if_neg hA,if_neg hB,if_pos rfl]at *
   have hti:InR .i64 0:=by decide
   obtain⟨ti,hti2⟩:∃ti,i.tried=ti:=⟨_,rfl⟩
   obtain⟨si,hsi2⟩:∃si,i.stop=si:=⟨_,rfl⟩
   have eI:inpE i=[.bool i.start,.bool si,.bool i.broken,.bool i.clear,.bool ti,.bool i.found,.bool i.missed,.bool i.lost,.bool i.over]:=by rw[inpE,hti2,hsi2]
   have eF:(i.tried&&!i.stop)=(ti&&!si):=by rw[hti2,hsi2]
   rw[eI]
   rw[eF]at hOk ⊢
   cases ti<;>cases si
   ·have hT:=fun w ho hr=>tell_any g k ({ s with mode:=m2,ins:=s.ins++[i],modes:=s.modes++[m2],fail:=false&&!false,void:=false,g:=grd0,deeds:=[] }:NavS) ({ a with Ag:=none,cg:=0,Ad:=none,cd:=0,Ai:=A3,ci:=c3,Am:=A4,cm:=c4 }:NvA) w ho hOk hk hr
    by_cases hm:say=true∨m2≠s.mode
    ·rw[if_pos hm]
     refine z_tas
     all_goals try (exfalso;rcases hm with hm|hm<;>simp_all;done)
     all_goals refine j_nil (e:=173) (size:=16) ?_
     all_goals refine lfn (S:=[.blk g 109 (navE ({ s with mode:=m2,ins:=s.ins++[i],modes:=s.modes++[m2],fail:=false&&!false,void:=false,g:=grd0,deeds:=[] }:NavS) ({ a with Ag:=none,cg:=0,Ad:=none,cd:=0,Ai:=A3,ci:=c3,Am:=A4,cm:=c4 }:NvA))]) rfl rfl (Split.cons (.there _ (.there _ (.here _ _))) (Split.nil _)) rfl (fun w hw ho=>hT w ho ⟨Ro.nil _ _ _⟩) ?_
     all_goals rintro v S' ⟨So,⟨A5,c5,rfl,rfl⟩,rfl⟩
     all_goals refine z_tas
     all_goals exact j_out1 (S':=[.row (.slice A5 (tellN ({ s with mode:=m2,ins:=s.ins++[i],modes:=s.modes++[m2],fail:=false&&!false,void:=false,g:=grd0,deeds:=[] }:NavS)).2.length c5) 50 6 (tellN ({ s with mode:=m2,ins:=s.ins++[i],modes:=s.modes++[m2],fail:=false&&!false,void:=false,g:=grd0,deeds:=[] }:NavS)).2.length (flat frmE (tellN ({ s with mode:=m2,ins:=s.ins++[i],modes:=s.modes++[m2],fail:=false&&!false,void:=false,g:=grd0,deeds:=[] }:NavS)).2),.blk g 109 (navE (tellN ({ s with mode:=m2,ins:=s.ins++[i],modes:=s.modes++[m2],fail:=false&&!false,void:=false,g:=grd0,deeds:=[] }:NavS)).1 ({ a with Ag:=none,cg:=0,Ad:=none,cd:=0,Ai:=A3,ci:=c3,Am:=A4,cm:=c4 }:NvA)),dedH none 0 [],insH A3 c3 (s.ins++[i]),mdsH A4 c4 (s.modes++[m2])]) rfl rfl (Sub.cons (.here _ _) (Sub.cons (.here _ _) (Sub.cons (.here _ _) (Sub.cons (.there _ (.there _ (.here _ _))) (Sub.cons (.there _ (.there _ (.here _ _))) (Sub.nil _)))))) ⟨[_],[_,_,_,_],⟨A5,c5,rfl,rfl⟩,rfl,({ a with Ag:=none,cg:=0,Ad:=none,cd:=0,Ai:=A3,ci:=c3,Am:=A4,cm:=c4 }:NvA),[],⟨rfl,rfl,rfl⟩,rfl,.inr (.inl ⟨rfl,rfl,rfl⟩),rfl⟩
    ·rw[if_neg hm]
     refine z_tas
     all_goals try (exfalso;apply hm;simp_all;done)
     all_goals refine j_nil (e:=173) (size:=16) ?_
     all_goals refine j_nil (e:=50) (size:=6) ?_
     all_goals exact j_out1 (S':=[.row (.slice none 0 0) 50 6 0 (flat frmE []),.blk g 109 (navE ({ s with mode:=m2,ins:=s.ins++[i],modes:=s.modes++[m2],fail:=false&&!false,void:=false,g:=grd0,deeds:=[] }:NavS) ({ a with Ag:=none,cg:=0,Ad:=none,cd:=0,Ai:=A3,ci:=c3,Am:=A4,cm:=c4 }:NvA)),dedH none 0 [],insH A3 c3 (s.ins++[i]),mdsH A4 c4 (s.modes++[m2])]) rfl rfl (Sub.cons (.here _ _) (Sub.cons (.there _ (.there _ (.here _ _))) (Sub.cons (.here _ _) (Sub.cons (.there _ (.there _ (.here _ _))) (Sub.cons (.there _ (.there _ (.here _ _))) (Sub.nil _)))))) ⟨[_],[_,_,_,_],⟨none,0,rfl,rfl⟩,rfl,({ a with Ag:=none,cg:=0,Ad:=none,cd:=0,Ai:=A3,ci:=c3,Am:=A4,cm:=c4 }:NvA),[],⟨rfl,rfl,rfl⟩,rfl,.inr (.inl ⟨rfl,rfl,rfl⟩),rfl⟩
   ·have hT:=fun w ho hr=>tell_any g k ({ s with mode:=m2,ins:=s.ins++[i],modes:=s.modes++[m2],fail:=false&&!true,void:=false,g:=grd0,deeds:=[] }:NavS) ({ a with Ag:=none,cg:=0,Ad:=none,cd:=0,Ai:=A3,ci:=c3,Am:=A4,cm:=c4 }:NvA) w ho hOk hk hr
    by_cases hm:say=true∨m2≠s.mode
    ·rw[if_pos hm]
     refine z_tas
     all_goals try (exfalso;rcases hm with hm|hm<;>simp_all;done)
     all_goals refine j_nil (e:=173) (size:=16) ?_
     all_goals refine lfn (S:=[.blk g 109 (navE ({ s with mode:=m2,ins:=s.ins++[i],modes:=s.modes++[m2],fail:=false&&!true,void:=false,g:=grd0,deeds:=[] }:NavS) ({ a with Ag:=none,cg:=0,Ad:=none,cd:=0,Ai:=A3,ci:=c3,Am:=A4,cm:=c4 }:NvA))]) rfl rfl (Split.cons (.there _ (.there _ (.here _ _))) (Split.nil _)) rfl (fun w hw ho=>hT w ho ⟨Ro.nil _ _ _⟩) ?_
     all_goals rintro v S' ⟨So,⟨A5,c5,rfl,rfl⟩,rfl⟩
     all_goals refine z_tas
     all_goals exact j_out1 (S':=[.row (.slice A5 (tellN ({ s with mode:=m2,ins:=s.ins++[i],modes:=s.modes++[m2],fail:=false&&!true,void:=false,g:=grd0,deeds:=[] }:NavS)).2.length c5) 50 6 (tellN ({ s with mode:=m2,ins:=s.ins++[i],modes:=s.modes++[m2],fail:=false&&!true,void:=false,g:=grd0,deeds:=[] }:NavS)).2.length (flat frmE (tellN ({ s with mode:=m2,ins:=s.ins++[i],modes:=s.modes++[m2],fail:=false&&!true,void:=false,g:=grd0,deeds:=[] }:NavS)).2),.blk g 109 (navE (tellN ({ s with mode:=m2,ins:=s.ins++[i],modes:=s.modes++[m2],fail:=false&&!true,void:=false,g:=grd0,deeds:=[] }:NavS)).1 ({ a with Ag:=none,cg:=0,Ad:=none,cd:=0,Ai:=A3,ci:=c3,Am:=A4,cm:=c4 }:NvA)),dedH none 0 [],insH A3 c3 (s.ins++[i]),mdsH A4 c4 (s.modes++[m2])]) rfl rfl (Sub.cons (.here _ _) (Sub.cons (.here _ _) (Sub.cons (.here _ _) (Sub.cons (.there _ (.there _ (.here _ _))) (Sub.cons (.there _ (.there _ (.here _ _))) (Sub.nil _)))))) ⟨[_],[_,_,_,_],⟨A5,c5,rfl,rfl⟩,rfl,({ a with Ag:=none,cg:=0,Ad:=none,cd:=0,Ai:=A3,ci:=c3,Am:=A4,cm:=c4 }:NvA),[],⟨rfl,rfl,rfl⟩,rfl,.inr (.inl ⟨rfl,rfl,rfl⟩),rfl⟩
    ·rw[if_neg hm]
     refine z_tas
     all_goals try (exfalso;apply hm;simp_all;done)
     all_goals refine j_nil (e:=173) (size:=16) ?_
     all_goals refine j_nil (e:=50) (size:=6) ?_
     all_goals exact j_out1 (S':=[.row (.slice none 0 0) 50 6 0 (flat frmE []),.blk g 109 (navE ({ s with mode:=m2,ins:=s.ins++[i],modes:=s.modes++[m2],fail:=false&&!true,void:=false,g:=grd0,deeds:=[] }:NavS) ({ a with Ag:=none,cg:=0,Ad:=none,cd:=0,Ai:=A3,ci:=c3,Am:=A4,cm:=c4 }:NvA)),dedH none 0 [],insH A3 c3 (s.ins++[i]),mdsH A4 c4 (s.modes++[m2])]) rfl rfl (Sub.cons (.here _ _) (Sub.cons (.there _ (.there _ (.here _ _))) (Sub.cons (.here _ _) (Sub.cons (.there _ (.there _ (.here _ _))) (Sub.cons (.there _ (.there _ (.here _ _))) (Sub.nil _)))))) ⟨[_],[_,_,_,_],⟨none,0,rfl,rfl⟩,rfl,({ a with Ag:=none,cg:=0,Ad:=none,cd:=0,Ai:=A3,ci:=c3,Am:=A4,cm:=c4 }:NvA),[],⟨rfl,rfl,rfl⟩,rfl,.inr (.inl ⟨rfl,rfl,rfl⟩),rfl⟩
   ·have hT:=fun w ho hr=>tell_any g k ({ s with mode:=m2,ins:=s.ins++[i],modes:=s.modes++[m2],fail:=true&&!false,void:=false,g:=grd0,deeds:=[] }:NavS) ({ a with Ag:=none,cg:=0,Ad:=none,cd:=0,Ai:=A3,ci:=c3,Am:=A4,cm:=c4 }:NvA) w ho hOk hk hr
    by_cases hm:say=true∨m2≠s.mode
    ·rw[if_pos hm]
     refine z_tas
     all_goals try (exfalso;rcases hm with hm|hm<;>simp_all;done)
     all_goals refine j_nil (e:=173) (size:=16) ?_
     all_goals refine lfn (S:=[.blk g 109 (navE ({ s with mode:=m2,ins:=s.ins++[i],modes:=s.modes++[m2],fail:=true&&!false,void:=false,g:=grd0,deeds:=[] }:NavS) ({ a with Ag:=none,cg:=0,Ad:=none,cd:=0,Ai:=A3,ci:=c3,Am:=A4,cm:=c4 }:NvA))]) rfl rfl (Split.cons (.there _ (.there _ (.here _ _))) (Split.nil _)) rfl (fun w hw ho=>hT w ho ⟨Ro.nil _ _ _⟩) ?_
     all_goals rintro v S' ⟨So,⟨A5,c5,rfl,rfl⟩,rfl⟩
     all_goals refine z_tas
     all_goals exact j_out1 (S':=[.row (.slice A5 (tellN ({ s with mode:=m2,ins:=s.ins++[i],modes:=s.modes++[m2],fail:=true&&!false,void:=false,g:=grd0,deeds:=[] }:NavS)).2.length c5) 50 6 (tellN ({ s with mode:=m2,ins:=s.ins++[i],modes:=s.modes++[m2],fail:=true&&!false,void:=false,g:=grd0,deeds:=[] }:NavS)).2.length (flat frmE (tellN ({ s with mode:=m2,ins:=s.ins++[i],modes:=s.modes++[m2],fail:=true&&!false,void:=false,g:=grd0,deeds:=[] }:NavS)).2),.blk g 109 (navE (tellN ({ s with mode:=m2,ins:=s.ins++[i],modes:=s.modes++[m2],fail:=true&&!false,void:=false,g:=grd0,deeds:=[] }:NavS)).1 ({ a with Ag:=none,cg:=0,Ad:=none,cd:=0,Ai:=A3,ci:=c3,Am:=A4,cm:=c4 }:NvA)),dedH none 0 [],insH A3 c3 (s.ins++[i]),mdsH A4 c4 (s.modes++[m2])]) rfl rfl (Sub.cons (.here _ _) (Sub.cons (.here _ _) (Sub.cons (.here _ _) (Sub.cons (.there _ (.there _ (.here _ _))) (Sub.cons (.there _ (.there _ (.here _ _))) (Sub.nil _)))))) ⟨[_],[_,_,_,_],⟨A5,c5,rfl,rfl⟩,rfl,({ a with Ag:=none,cg:=0,Ad:=none,cd:=0,Ai:=A3,ci:=c3,Am:=A4,cm:=c4 }:NvA),[],⟨rfl,rfl,rfl⟩,rfl,.inr (.inl ⟨rfl,rfl,rfl⟩),rfl⟩
    ·rw[if_neg hm]
     refine z_tas
     all_goals try (exfalso;apply hm;simp_all;done)
     all_goals refine j_nil (e:=173) (size:=16) ?_
     all_goals refine j_nil (e:=50) (size:=6) ?_
     all_goals exact j_out1 (S':=[.row (.slice none 0 0) 50 6 0 (flat frmE []),.blk g 109 (navE ({ s with mode:=m2,ins:=s.ins++[i],modes:=s.modes++[m2],fail:=true&&!false,void:=false,g:=grd0,deeds:=[] }:NavS) ({ a with Ag:=none,cg:=0,Ad:=none,cd:=0,Ai:=A3,ci:=c3,Am:=A4,cm:=c4 }:NvA)),dedH none 0 [],insH A3 c3 (s.ins++[i]),mdsH A4 c4 (s.modes++[m2])]) rfl rfl (Sub.cons (.here _ _) (Sub.cons (.there _ (.there _ (.here _ _))) (Sub.cons (.here _ _) (Sub.cons (.there _ (.there _ (.here _ _))) (Sub.cons (.there _ (.there _ (.here _ _))) (Sub.nil _)))))) ⟨[_],[_,_,_,_],⟨none,0,rfl,rfl⟩,rfl,({ a with Ag:=none,cg:=0,Ad:=none,cd:=0,Ai:=A3,ci:=c3,Am:=A4,cm:=c4 }:NvA),[],⟨rfl,rfl,rfl⟩,rfl,.inr (.inl ⟨rfl,rfl,rfl⟩),rfl⟩
   ·have hT:=fun w ho hr=>tell_any g k ({ s with mode:=m2,ins:=s.ins++[i],modes:=s.modes++[m2],fail:=true&&!true,void:=false,g:=grd0,deeds:=[] }:NavS) ({ a with Ag:=none,cg:=0,Ad:=none,cd:=0,Ai:=A3,ci:=c3,Am:=A4,cm:=c4 }:NvA) w ho hOk hk hr
    by_cases hm:say=true∨m2≠s.mode
    ·rw[if_pos hm]
     refine z_tas
     all_goals try (exfalso;rcases hm with hm|hm<;>simp_all;done)
     all_goals refine j_nil (e:=173) (size:=16) ?_
     all_goals refine lfn (S:=[.blk g 109 (navE ({ s with mode:=m2,ins:=s.ins++[i],modes:=s.modes++[m2],fail:=true&&!true,void:=false,g:=grd0,deeds:=[] }:NavS) ({ a with Ag:=none,cg:=0,Ad:=none,cd:=0,Ai:=A3,ci:=c3,Am:=A4,cm:=c4 }:NvA))]) rfl rfl (Split.cons (.there _ (.there _ (.here _ _))) (Split.nil _)) rfl (fun w hw ho=>hT w ho ⟨Ro.nil _ _ _⟩) ?_
     all_goals rintro v S' ⟨So,⟨A5,c5,rfl,rfl⟩,rfl⟩
     all_goals refine z_tas
     all_goals exact j_out1 (S':=[.row (.slice A5 (tellN ({ s with mode:=m2,ins:=s.ins++[i],modes:=s.modes++[m2],fail:=true&&!true,void:=false,g:=grd0,deeds:=[] }:NavS)).2.length c5) 50 6 (tellN ({ s with mode:=m2,ins:=s.ins++[i],modes:=s.modes++[m2],fail:=true&&!true,void:=false,g:=grd0,deeds:=[] }:NavS)).2.length (flat frmE (tellN ({ s with mode:=m2,ins:=s.ins++[i],modes:=s.modes++[m2],fail:=true&&!true,void:=false,g:=grd0,deeds:=[] }:NavS)).2),.blk g 109 (navE (tellN ({ s with mode:=m2,ins:=s.ins++[i],modes:=s.modes++[m2],fail:=true&&!true,void:=false,g:=grd0,deeds:=[] }:NavS)).1 ({ a with Ag:=none,cg:=0,Ad:=none,cd:=0,Ai:=A3,ci:=c3,Am:=A4,cm:=c4 }:NvA)),dedH none 0 [],insH A3 c3 (s.ins++[i]),mdsH A4 c4 (s.modes++[m2])]) rfl rfl (Sub.cons (.here _ _) (Sub.cons (.here _ _) (Sub.cons (.here _ _) (Sub.cons (.there _ (.there _ (.here _ _))) (Sub.cons (.there _ (.there _ (.here _ _))) (Sub.nil _)))))) ⟨[_],[_,_,_,_],⟨A5,c5,rfl,rfl⟩,rfl,({ a with Ag:=none,cg:=0,Ad:=none,cd:=0,Ai:=A3,ci:=c3,Am:=A4,cm:=c4 }:NvA),[],⟨rfl,rfl,rfl⟩,rfl,.inr (.inl ⟨rfl,rfl,rfl⟩),rfl⟩
    ·rw[if_neg hm]
     refine z_tas
     all_goals try (exfalso;apply hm;simp_all;done)
     all_goals refine j_nil (e:=173) (size:=16) ?_
     all_goals refine j_nil (e:=50) (size:=6) ?_
     all_goals exact j_out1 (S':=[.row (.slice none 0 0) 50 6 0 (flat frmE []),.blk g 109 (navE ({ s with mode:=m2,ins:=s.ins++[i],modes:=s.modes++[m2],fail:=true&&!true,void:=false,g:=grd0,deeds:=[] }:NavS) ({ a with Ag:=none,cg:=0,Ad:=none,cd:=0,Ai:=A3,ci:=c3,Am:=A4,cm:=c4 }:NvA)),dedH none 0 [],insH A3 c3 (s.ins++[i]),mdsH A4 c4 (s.modes++[m2])]) rfl rfl (Sub.cons (.here _ _) (Sub.cons (.there _ (.there _ (.here _ _))) (Sub.cons (.here _ _) (Sub.cons (.there _ (.there _ (.here _ _))) (Sub.cons (.there _ (.there _ (.here _ _))) (Sub.nil _)))))) ⟨[_],[_,_,_,_],⟨none,0,rfl,rfl⟩,rfl,({ a with Ag:=none,cg:=0,Ad:=none,cd:=0,Ai:=A3,ci:=c3,Am:=A4,cm:=c4 }:NvA),[],⟨rfl,rfl,rfl⟩,rfl,.inr (.inl ⟨rfl,rfl,rfl⟩),rfl⟩
  rw[if_neg hA,if_neg hB,if_neg hC]at *
  have hT:=fun w ho hr=>tell_any g k ({ s with mode:=m2,ins:=s.ins++[i],modes:=s.modes++[m2] }:NavS) ({ a with Ai:=A3,ci:=c3,Am:=A4,cm:=c4 }:NvA) w ho hOk hk hr
  by_cases hm:say=true∨m2≠s.mode
  ·rw[if_pos hm]
   refine z_tas
   all_goals try (exfalso;rcases hm with hm|hm<;>simp_all;done)
   all_goals refine lfn (S:=[.blk g 109 (navE ({ s with mode:=m2,ins:=s.ins++[i],modes:=s.modes++[m2] }:NavS) ({ a with Ai:=A3,ci:=c3,Am:=A4,cm:=c4 }:NvA))]) rfl rfl (Split.cons (.there _ (.here _ _)) (Split.nil _)) rfl (fun w hw ho=>hT w ho ⟨hr.h.go hw (Split.cons (.there _ (.here _ _)) (Split.nil _))⟩) ?_
   all_goals rintro v S' ⟨So,⟨A5,c5,rfl,rfl⟩,rfl⟩
   all_goals refine z_tas
   all_goals exact j_out1 (S':=[.row (.slice A5 (tellN ({ s with mode:=m2,ins:=s.ins++[i],modes:=s.modes++[m2] }:NavS)).2.length c5) 50 6 (tellN ({ s with mode:=m2,ins:=s.ins++[i],modes:=s.modes++[m2] }:NavS)).2.length (flat frmE (tellN ({ s with mode:=m2,ins:=s.ins++[i],modes:=s.modes++[m2] }:NavS)).2),.blk g 109 (navE (tellN ({ s with mode:=m2,ins:=s.ins++[i],modes:=s.modes++[m2] }:NavS)).1 ({ a with Ai:=A3,ci:=c3,Am:=A4,cm:=c4 }:NvA)),dedH a.Ad a.cd ds,insH A3 c3 (s.ins++[i]),mdsH A4 c4 (s.modes++[m2])]) rfl rfl (Sub.cons (.here _ _) (Sub.cons (.here _ _) (Sub.cons (.there _ (.here _ _)) (Sub.cons (.there _ (.here _ _)) (Sub.cons (.there _ (.here _ _)) (Sub.nil _)))))) ⟨[_],[_,_,_,_],⟨A5,c5,rfl,rfl⟩,rfl,({ a with Ai:=A3,ci:=c3,Am:=A4,cm:=c4 }:NvA),ds,⟨rfl,rfl,rfl⟩,hd,.inl ⟨rfl,rfl,rfl⟩,rfl⟩
  ·rw[if_neg hm]
   refine z_tas
   all_goals try (exfalso;apply hm;simp_all;done)
   all_goals refine j_nil (e:=50) (size:=6) ?_
   all_goals exact j_out1 (S':=[.row (.slice none 0 0) 50 6 0 (flat frmE []),.blk g 109 (navE ({ s with mode:=m2,ins:=s.ins++[i],modes:=s.modes++[m2] }:NavS) ({ a with Ai:=A3,ci:=c3,Am:=A4,cm:=c4 }:NvA)),dedH a.Ad a.cd ds,insH A3 c3 (s.ins++[i]),mdsH A4 c4 (s.modes++[m2])]) rfl rfl (Sub.cons (.here _ _) (Sub.cons (.there _ (.here _ _)) (Sub.cons (.there _ (.here _ _)) (Sub.cons (.there _ (.here _ _)) (Sub.cons (.there _ (.here _ _)) (Sub.nil _)))))) ⟨[_],[_,_,_,_],⟨none,0,rfl,rfl⟩,rfl,({ a with Ai:=A3,ci:=c3,Am:=A4,cm:=c4 }:NvA),ds,⟨rfl,rfl,rfl⟩,hd,.inl ⟨rfl,rfl,rfl⟩,rfl⟩
end Go.Proofs.YthajpemlpmlefaaGreat
