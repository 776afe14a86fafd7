import Derived.Test.YthajpemlpmlefaaGreatP47
set_option maxHeartbeats 512000000
set_option maxRecDepth 4000
set_option linter.unusedVariables false
set_option linter.unusedSimpArgs false
namespace Go.Proofs.YthajpemlpmlefaaGreat
open Go.RowKit
theorem roughB_eq(L:List Int):roughB L=(roughR L).1:=by
 unfold roughB roughR
 split
 ·rfl
 ·rw[sqB_isq (roughX_eq L).2]
theorem roughR_in(L:List Int):0≤(roughR L).1∧(roughR L).1≤4294967296:=by
 unfold roughR
 split
 ·decide
 ·have:=isq_lt (roughX_eq L).2
  dsimp only
  omega
def WgR(o:Option (List Int))(v:Value)(S:List HE)(T:List HE):Prop:=(o=none∧v=.tuple #[.slice none 0 0,.bool false]∧S=T)∨∃l A c,o=some l∧v=.tuple #[.slice A l.length c,.bool true]∧S=.row (.slice A l.length c) 2 1 l.length (ints .i64 l)::T
attribute [local irreducible] OJ J HdJ Code.wpIn wpListIn Oper.wpIn bodyPost CallsIn Does
theorem weights_t(K:CaT)(s0:CaV)(f:List Int)(g:Grd)(A:Option Addr)(c:Nat)(n:Noi)(z b:Int)(w:World)(hown:Own (K.H s0) w)(hF:CaF K.ys f K.room)(hk0:CaOk K.ys f K.room s0 b)(hb:b≤800000000000000000)
  (hr:RoA w (blocks (K.H s0)) A g.p.length c 1 (ints .i64 g.p)) (hg:GrdOk g) (hx : -4611686018427387904≤g.x∧g.x≤4611686018427387904) (hy : -4611686018427387904≤g.y∧g.y≤4611686018427387904) (hn:NoiOk n) (hz : -4398046511104≤z∧z≤4398046511104) :
  Does Tryz.prog 23 [.pointer (some ⟨K.g,0,none⟩),.agg (grE g A c).toArray,.agg (noiE n).toArray,.int .i64 z] (K.H s0) w
   (fun v S'=>∃s',CaOk K.ys f K.room s' (b+20000)∧WgR (weightsN (wY K.ys) (hY K.ys) f g n z) v S' (K.H s')):=by
 have hm4:=hg.len
 have hMe:=fun w hw=>meang_any g A c w hw hg hx hy
 have hsd:=hg.1
 unfold sidesOk at hsd
 have hAt:=fun i w (hi:i<g.p.length)=>gat_any g A c i w hi (by omega) hm4.2 (by omega) hx hy
 have hW:weightsN (wY K.ys) (hY K.ys) f g n z=if codeF (wY K.ys) (hY K.ys) f (meanN g).1 (meanN g).2≠0 then none else some (tab (fun i=>if codeF (wY K.ys) (hY K.ys) f (g.x+colI g.w i*g.st) (g.y+rowI g.w i*g.st)=0 then wgtN (widN n (roughB (sqH (wY K.ys) (hY K.ys) f ((meanN g).1/256) ((meanN g).2/256) 1)/4)) (heightT (wY K.ys) (hY K.ys) f (g.x+colI g.w i*g.st) (g.y+rowI g.w i*g.st)-z)else (widN n (roughB (sqH (wY K.ys) (hY K.ys) f ((meanN g).1/256) ((meanN g).2/256) 1)/4)).flo) g.p.length):=rfl
 rw[hW,roughB_eq]
 clear hW
 have hri:=roughR_in (sqH (wY K.ys) (hY K.ys) f ((meanN g).1/256) ((meanN g).2/256) 1)
 have hRo:=fun s1 b1 w ho hk hb=>rough_t K s1 f ((meanN g).1/256) ((meanN g).2/256) 1 b1 w ho hF hk hb
 generalize (roughR (sqH (wY K.ys) (hY K.ys) f ((meanN g).1/256) ((meanN g).2/256) 1)).1=ro at *
 generalize (roughR (sqH (wY K.ys) (hY K.ys) f ((meanN g).1/256) ((meanN g).2/256) 1)).2=ro2 at *
 generalize meanN g=m at *
 obtain⟨m1,m2⟩:=m
 dsimp only at hMe hRo ⊢
 have hwn:=widN_ok hn (ro/4)
 obtain⟨N,hN⟩:∃N:Nat,g.p.length=N:=⟨_,rfl⟩
 have iW:=widen_cv n (ro/4)
 generalize hv:widN n (ro/4)=v at *
 obtain⟨F,hFF⟩:∃F:Nat→Int,(fun i:Nat=>if codeF (wY K.ys) (hY K.ys) f (g.x+colI g.w i*g.st) (g.y+rowI g.w i*g.st)=0 then wgtN v (heightT (wY K.ys) (hY K.ys) f (g.x+colI g.w i*g.st) (g.y+rowI g.w i*g.st)-z)else v.flo)=F:=⟨_,rfl⟩
 rw[hFF]
 have hlen:=fun i (hi:i≤N)=>prt_len F hi
 have hset:=fun i (hi:i<N)=>prt_set F hi
 obtain⟨ns,nf,ng⟩:=n
 obtain⟨vs,vf,vg⟩:=v
 have hn2:=hn
 obtain⟨⟨n1,n2⟩,-⟩:=hn2
 have hwn2:=hwn
 obtain⟨-,⟨w1,w2⟩,-⟩:=hwn2
 obtain⟨gw,gh,gx,gy,gs,p⟩:=g
 dsimp only at hr hm4 hMe hAt hN hx hy hsd hFF n1 n2 w1 w2 ⊢
 dsimp only[grE,noiE]at *
 clear hg
 refine does_of Tryz.func23 rfl Tryz.ntmps23 rfl hown (fun _=>?_)
 simp only[slots]
 refine z_tas
 rename_i b5 b6
 refine lfv rfl rfl rfl (fun w hw=>hMe w ⟨hr.h.go hw (Split.nil _)⟩) ?_
 refine z_tas
 refine lf rfl rfl rfl (S:=K.H s0) (fun w hw ho=>height_t K s0 f m1 m2 b w ho hF hk0 (by omega)) ?_
 rintro v S' ⟨s1,rfl,hk1,rfl⟩
 by_cases hc:codeF (wY K.ys) (hY K.ys) f m1 m2=0
 case neg =>
  rw[if_pos hc]
  refine z_tas
  exact j_out2 rfl rfl rfl Sub.au ⟨s1,hk1.mono (by omega),.inl ⟨rfl,rfl,rfl⟩⟩
 rw[if_neg (by rw[hc];decide),hc]
 refine z_tas
 refine lf rfl rfl rfl (S:=K.H s1) (fun w hw ho=>hRo s1 (b+4) w ho hk1 (by omega)) ?_
 rintro v S' ⟨s2,rfl,hk2,rfl⟩
 refine z_tas
 rename_i bo
 subst hN
 refine c_loop (X:=Nat×CaV) (fun q=>q.1≤p.length∧CaOk K.ys f K.room q.2 (b+404+4*(q.1:Int)))
  (fun q=>[(0,.pointer (some ⟨K.g,0,none⟩)),(3,.int .i64 z),(5,.pointer (some ⟨b5,0,none⟩)),(6,.pointer (some ⟨b6,0,none⟩)),(16,.slice (some ⟨bo,0,none⟩) p.length p.length),(55,.int .i64 p.length),(56,.int .i64 q.1)])
  (fun q=>.row (.slice (some ⟨bo,0,none⟩) p.length p.length) 2 1 p.length (ints .i64 (prt F p.length q.1))::K.HC q.2 [.blk b6 29 [.int .i64 vs,.int .i64 vf,.int .i64 vg],.blk b5 63 [.int .i64 gw,.int .i64 gh,.int .i64 gx,.int .i64 gy,.int .i64 gs,.slice A p.length c]]) (fun q=>p.length-q.1) (0,s2) ⟨Nat.zero_le _,hk2.mono (by dsimp only;omega)⟩ ⟨rfl,rfl,rfl,rfl,rfl,rfl,rfl,trivial⟩ (by dsimp only;rw[prt_zero];exact Sub.au) ?_
 rintro⟨i,s3⟩ ⟨hi,hk3⟩
 dsimp only at hi hk3 ⊢
 rcases Nat.lt_or_ge i p.length with h|h
 ·have hs:=hset i h
  have hle:=hlen i hi
  have hFi:F i=if codeF (wY K.ys) (hY K.ys) f (gx+colI gw i*gs) (gy+rowI gw i*gs)=0 then wgtN ⟨vs,vf,vg⟩ (heightT (wY K.ys) (hY K.ys) f (gx+colI gw i*gs) (gy+rowI gw i*gs)-z)else vf:=by rw[← hFF]
  have hA2:=fun w=>hAt i w h
  have hH:=heightT_in hF.good.1 (W:=wY K.ys) (H:=hY K.ys) (gx+colI gw i*gs) (gy+rowI gw i*gs)
  have hHt:=fun w ho=>height_t K s3 f (gx+colI gw i*gs) (gy+rowI gw i*gs) (b+404+4*(i:Int)) w ho hF hk3 (by omega)
  clear hset hlen hFF hAt
  generalize gx+colI gw i*gs=px at *
  generalize gy+rowI gw i*gs=py at *
  generalize heightT (wY K.ys) (hY K.ys) f px py=hh at *
  generalize codeF (wY K.ys) (hY K.ys) f px py=cd at *
  have iN:CV Tryz.prog 61 [.agg (noiE ⟨vs,vf,vg⟩).toArray,.int .i64 (hh-z)] (.int .i64 (wgtN ⟨vs,vf,vg⟩ (hh-z))) True:=⟨fun _ w=>(weightN_cv ⟨vs,vf,vg⟩ (hh-z)).h ⟨hwn,by show (-9223372036854775808:Int)≤_∧_≤(9223372036854775807:Int);omega⟩ w⟩
  generalize wgtN ⟨vs,vf,vg⟩ (hh-z)=wv at *
  dsimp only[noiE]at iN
  generalize hpr:prt F p.length i=R at *
  refine z_tas
  refine lfv rfl rfl rfl (fun w hw=>hA2 w) ?_
  refine z_tas
  refine lf rfl rfl rfl (S:=K.H s3) (fun w hw ho=>hHt w ho) ?_
  rintro v S' ⟨s4,rfl,hk4,rfl⟩
  by_cases hc0:cd=0
  ·rw[if_pos hc0]at hFi
   rw[hFi]at hs
   subst hc0
   have hl2:(R.set i vf).length=p.length:=by rw[List.length_set];exact hle
   refine z_tas
   refine c_round (i+1,s4) ⟨h,hk4.mono (by dsimp only;omega)⟩ (by show p.length-(i+1)<p.length-i;omega) ⟨rfl,rfl,rfl,rfl,rfl,rfl,by simp[look],trivial⟩ ?_
   dsimp only
   rw[← hs]
   try rw[List.set_set]
   exact Sub.au
  ·rw[if_neg hc0]at hFi
   rw[hFi]at hs
   refine z_tas
   all_goals first
    | (exfalso;contradiction)
    | (refine c_round (i + 1, s4) ⟨h, hk4.mono (by dsimp only; omega)⟩ (by show p.length - (i + 1) < p.length - i; omega) ⟨rfl, rfl, rfl, rfl, rfl, rfl, by simp [look], trivial⟩ ?_
       dsimp only
       rw [← hs]
       exact Sub.au)
 ·obtain rfl:i=p.length:=by omega
  rw[prt_all]
  refine z_tas
  refine j_out2 rfl rfl (S':=.row (.slice (some ⟨bo,0,none⟩) p.length p.length) 2 1 p.length (ints .i64 (tab F p.length))::K.H s3) rfl Sub.au ⟨s3,hk3.mono (by omega),.inr ⟨_,some ⟨bo,0,none⟩,p.length,rfl,?_,?_⟩⟩
  ·rw[tab_len]
  ·rw[tab_len]
def lay1(s:NavS):NavS :=
 let c:=chooseN s.g
 let raw:=rawN s.g c
 let g':=normG raw
 let n:Int:=g'.w*g'.h
 { s with g:=g',bk:=if c.kind=1 then plusL s.bk s.bk.b (2*costL n)else if c.kind=2 then plusL s.bk s.bk.b (costL n)else plusL s.bk (scaledL s.bk.b 1 (sumL s.g.p s.g.p.length) (sumL raw.p raw.p.length)) (costL n),deeds:=s.deeds++[⟨4,grd0,0,0,0,[],c⟩] }
theorem layN_step(k:Nat)(s:NavS)(h:(chooseN s.g).kind≠0):layN (k+1) s=layN k (lay1 s):=by
 rw[layN]
 dsimp only
 rw[if_neg h]
 rfl
theorem layN_stop(k:Nat)(s:NavS)(h:(chooseN s.g).kind=0):layN k s=s:=by
 cases k with
 | zero=>rfl
 | succ k=>rw[layN];dsimp only;rw[if_pos h]
structure LyI(k i:Nat)(s1 s':NavS):Prop where
 g:s'.g=gseq s1.g i
 lay:layN (4-i) s'=layN 4 s1
 ok:GrdOk s'.g
 b:0≤s'.bk.b∧s'.bk.b≤1099511627776
 bn:0≤s'.bk.n∧s'.bk.n≤6*(k:Int)+1+i
 dl:s'.deeds.length≤6*k+1+i
 rest:NvL s'
theorem LyI.zero{k:Nat}{s1:NavS}(hg:GrdOk s1.g)(hb:0≤s1.bk.b∧s1.bk.b≤1099511627776)(hn:0≤s1.bk.n∧s1.bk.n≤6*(k:Int)+1)(hd:s1.deeds.length≤6*k+1)(hL:NvL s1):LyI k 0 s1 s1:=⟨rfl,rfl,hg,hb,by omega,by omega,hL⟩
theorem LyI.next{k i:Nat}{s1 s':NavS}(h:LyI k i s1 s')(hi:i<4)(hc:(chooseN s'.g).kind≠0):LyI k (i+1) s1 (lay1 s'):=by
 obtain⟨hch,hp,hz,ho⟩:=raw_ok h.ok hc
 have hcost:0≤costL ((normG (rawN s'.g (chooseN s'.g))).w*(normG (rawN s'.g (chooseN s'.g))).h)∧costL ((normG (rawN s'.g (chooseN s'.g))).w*(normG (rawN s'.g (chooseN s'.g))).h)≤4194400:=costL_in (by have:=ho.len;rw[← ho.2.1];omega)
 have hs0:0≤sumL s'.g.p s'.g.p.length:=by have:=h.ok.2.2.2.1;have:=h.ok.len;omega
 have hb0:=h.b
 have hsc:=scaledL_in (b:=s'.bk.b) (most:=1) (s:=sumL s'.g.p s'.g.p.length) (z:=sumL (rawN s'.g (chooseN s'.g)).p (rawN s'.g (chooseN s'.g)).p.length) hb0 (by decide) hs0
 have hbn:=h.bn
 have hdl:=h.dl
 refine⟨?_,?_,ho,?_,?_,?_,⟨h.rest.pl,h.rest.wl⟩⟩
 ·show normG (rawN s'.g (chooseN s'.g))=normG (rawN (gseq s1.g i) (chooseN (gseq s1.g i)))
  rw[h.g]
 ·rw[← h.lay,show 4-i=(4-(i+1))+1 by omega,layN_step _ _ hc]
 ·show 0≤(if (chooseN s'.g).kind=1 then _ else if (chooseN s'.g).kind=2 then _ else _:Bk).b∧(if (chooseN s'.g).kind=1 then _ else if (chooseN s'.g).kind=2 then _ else _:Bk).b≤_
  generalize costL ((normG (rawN s'.g (chooseN s'.g))).w*(normG (rawN s'.g (chooseN s'.g))).h)=co at *
  split
  ·exact plusL_in ⟨hb0,by omega⟩
  ·split
   ·exact plusL_in ⟨hb0,by omega⟩
   ·exact plusL_in ⟨hsc,by omega⟩
 ·have e:(lay1 s').bk.n=s'.bk.n+1:=by
   show (if (chooseN s'.g).kind=1 then _ else if (chooseN s'.g).kind=2 then _ else _:Bk).n=_
   split
   ·rfl
   ·split<;>rfl
  rw[e]
  push_cast
  omega
 ·show (s'.deeds++[_]).length≤_
  rw[List.length_append,List.length_singleton]
  omega
def WyI(g b2 k:Nat)(s1:NavS)(a1:NvA)(i:Nat)(S:List HE):Prop:=∃(s':NavS) (a':NvA) (ds:List DedX) (Ax:Option Addr) (cx:Nat) (xs:List Int),
 LyI k i s1 s'∧(a'.ptr=a1.ptr∧a'.An=a1.An∧a'.cn=a1.cn∧a'.Ai=a1.Ai∧a'.ci=a1.ci∧a'.Am=a1.Am∧a'.cm=a1.cm)∧ds.length=s'.deeds.length ∧
 (i=0∧a'.Ag=a1.Ag∧a'.cg=a1.cg∨a'.Ag=Ax∧a'.cg=cx∧s'.g.p=xs) ∧
 S=[.row (.slice Ax xs.length cx) 2 1 xs.length (ints .i64 xs),.blk b2 39 [.pointer (some ⟨g,0,none⟩)],.blk g 109 (navE s' a'),dedH a'.Ad a'.cd ds]
theorem eset_fld{α:Type}[Inhabited α]{e:α→List Value}{s:Nat}[hE:RowE e s](l:List α)(i k q:Nat)(v:Value)(x':α)(hq:q=i*s+k)(hk:k<s)(hx:e x'=(e (l.getD i default)).set k v):ESet (flat e l) q v (flat e (l.set i x')) (i<l.length):=⟨fun h=>by
 subst hq
 have e1:=congrArg (flat e) (atA_mid l i h)
 rw[show l.take i++(l.getD i default::l.drop (i+1))=l.take i++([l.getD i default]++l.drop (i+1))from rfl,flat_app,flat_app,flat_one]at e1
 have e2:=congrArg (flat e) (setA_mid l i h x')
 rw[show l.take i++(x'::l.drop (i+1))=l.take i++([x']++l.drop (i+1))from rfl,flat_app,flat_app,flat_one]at e2
 have hl:(flat e (l.take i)).length=i*s:=by rw[flat_len,List.length_take,Nat.min_eq_left (by omega)]
 have hv:(e (l.getD i default)).length=s:=by have:=flat_len (e:=e) [l.getD i default];rw[flat_one]at this;simpa using this
 rw[e1,e2,hx]
 refine⟨?_,by simp only[List.length_append];omega⟩
 rw[← hl,List.set_append_right _ _ (by omega),Nat.add_sub_cancel_left,List.set_append_left _ _ (by omega)]⟩
def bckTo(L:List Smp)(x y:Int)(i:Nat):List Smp:=(L.take i).map (fun s=>⟨s.dx-x,s.dy-y,s.z⟩)++L.drop i
theorem bckTo_len(L:List Smp)(x y:Int)(i:Nat):(bckTo L x y i).length=L.length:=by
 unfold bckTo
 rw[List.length_append,List.length_map,← List.length_append,List.take_append_drop]
theorem bckTo_get(L:List Smp)(x y:Int)(i:Nat)(h:i<L.length):(bckTo L x y i).getD i default=L.getD i default:=by
 unfold bckTo
 rw[List.getD_eq_getElem?_getD,List.getElem?_append_right (by rw[List.length_map,List.length_take];omega),List.length_map,List.length_take,Nat.min_eq_left (by omega),Nat.sub_self,List.getElem?_drop,Nat.add_zero,← List.getD_eq_getElem?_getD]
theorem bckTo_set(L:List Smp)(x y:Int)(i:Nat)(h:i<L.length):(bckTo L x y i).set i ⟨(L.getD i default).dx-x,(L.getD i default).dy-y,(L.getD i default).z⟩=bckTo L x y (i+1):=by
 unfold bckTo
 have hl:((L.take i).map (fun s:Smp=>(⟨s.dx-x,s.dy-y,s.z⟩:Smp))).length=i:=by rw[List.length_map,List.length_take];omega
 rw[List.set_append_right _ _ (by omega),hl,Nat.sub_self,List.drop_eq_getElem_cons h,List.set_cons_zero,List.take_succ_eq_append_getElem h,List.map_append,List.append_assoc]
 rw[List.getD_eq_getElem?_getD,List.getElem?_eq_getElem h]
 rfl
theorem bckTo_all(P:Prf):bckTo (pAll P P.n) P.x P.y P.n=pBack P:=by
 unfold bckTo pBack
 have:=pAll_len P P.n
 rw[List.take_of_length_le (by omega),List.drop_eq_nil_of_le (by omega),List.append_nil]
theorem pBack_len(P:Prf):(pBack P).length=P.n:=by
 unfold pBack
 rw[List.length_map,pAll_len]
section
variable (g:Nat) (T:TypeId) (p r:List Value) (P:Prf)
theorem pback_any(w:World)(hown:Own [.blk g T (p++prT P r)] w)(hok:PrfOk P):
  Does Tryz.prog 128 [.pointer (some ⟨g,p.length,none⟩)] [.blk g T (p++prT P r)] w
   (fun v S'=>∃A c,v=.slice A P.n c∧S'=[.row (.slice A P.n c) 99 3 P.n (flat smpE (pBack P)),.blk g T (p++prT P r)]):=by
 have hall:=fun w ho=>pall_any g T p r P w ho hok
 have hlen:=pAll_len P P.n
 have hb0:bckTo (pAll P P.n) P.x P.y 0=pAll P P.n:=rfl
 have hbl:=fun i=>bckTo_len (pAll P P.n) P.x P.y i
 have hbg:=fun i h=>bckTo_get (pAll P P.n) P.x P.y i h
 have hbs:=fun i h=>bckTo_set (pAll P P.n) P.x P.y i h
 have hin:∀i,i<P.n→(-2147483648≤((pAll P P.n).getD i default).dx∧((pAll P P.n).getD i default).dx≤2147483648)∧(-2147483648≤((pAll P P.n).getD i default).dy∧((pAll P P.n).getD i default).dy≤2147483648):=fun i hi=>by
  rw[pAll_get P P.n i hi]
  have:=hok.all ((P.first+i)%64) (by omega)
  omega
 rw[← bckTo_all P]
 obtain⟨l,first,m,x,y,gap⟩:=P
 obtain⟨h1,h2,h3,h4,h5,h6⟩:=hok
 dsimp only at h1 h2 h3 h4 h5 h6 hall hlen hb0 hbl hbg hbs hin ⊢
 dsimp only[prT]at *
 have iL:LenE (flat smpE l) 192:=⟨by rw[flat_len,h1]⟩
 generalize pAll ⟨l,first,m,x,y,gap⟩ m=L at *
 refine does_of Tryz.func128 rfl Tryz.ntmps128 rfl hown (fun _=>?_)
 simp only[slots]
 refine z_tas
 refine lf rfl rfl rfl (S:=[.blk g T (p++(flat smpE l++(.int .i64 first::.int .i64 m::.int .i64 x::.int .i64 y::.int .i64 gap::r)))]) (fun w hw ho=>hall w ho) ?_
 rintro v S' ⟨A,c,rfl,rfl⟩
 refine z_tas
 refine c_loop (X:=Nat) (fun q=>q≤m) (fun q=>[(0,.pointer (some ⟨g,p.length,none⟩)),(3,.slice A m c),(8,.int .i64 m),(9,.int .i64 q)])
  (fun q=>[.row (.slice A m c) 99 3 m (flat smpE (bckTo L x y q)),.blk g T (p++(flat smpE l++(.int .i64 first::.int .i64 m::.int .i64 x::.int .i64 y::.int .i64 gap::r)))]) (fun q=>m-q) 0 (Nat.zero_le _) ⟨rfl,rfl,rfl,rfl,trivial⟩ (by rw[hb0];exact Sub.au) ?_
 intro i hi
 rcases Nat.lt_or_ge i m with h|h
 ·refine j_opn (A:=A) (m:=m) (cc:=c) (by omega) (fun ga hga=>?_)
  subst hga
  have e1:=hbl i
  have e2:=hbg i (by omega)
  have e3:=hbs i (by omega)
  have e4:=hin i h
  clear hbl hbg hbs hin hall
  generalize hB:bckTo L x y i=B at *
  generalize L.getD i default=s at *
  obtain⟨sx,sy,sz⟩:=s
  dsimp only at e3 e4
  have hBi:i<B.length:=by omega
  have eB:B.getD i default=⟨sx,sy,sz⟩:=e2
  have g0:Get (smpE (B.getD i default)) 0 (.int .i64 sx):=⟨by rw[eB];rfl⟩
  have iS1:∀v:Int,ESet (flat smpE B) (i*3) (.int .i64 v) (flat smpE (B.set i ⟨v,sy,sz⟩)) (i<B.length):=fun v=>eset_fld (e:=smpE) B i 0 _ _ ⟨v,sy,sz⟩ (by omega) (by decide) (by rw[eB];rfl)
  have hB2:∀v:Int,(B.set i ⟨v,sy,sz⟩).getD i default=⟨v,sy,sz⟩:=fun v=>by rw[List.getD_eq_getElem?_getD,List.getElem?_set_self hBi];rfl
  have g1:∀v:Int,Get (smpE ((B.set i ⟨v,sy,sz⟩).getD i default)) 1 (.int .i64 sy):=fun v=>⟨by rw[hB2];rfl⟩
  have hlB:∀v:Int,i<(B.set i ⟨v,sy,sz⟩).length:=fun v=>by rw[List.length_set];exact hBi
  have iS2:∀u v:Int,ESet (flat smpE (B.set i ⟨u,sy,sz⟩)) (i*3+1) (.int .i64 v) (flat smpE (B.set i ⟨u,v,sz⟩)) (i<(B.set i ⟨u,sy,sz⟩).length):=fun u v=>by
   have:=eset_fld (e:=smpE) (B.set i ⟨u,sy,sz⟩) i 1 (i*3+1) (.int .i64 v) ⟨u,v,sz⟩ rfl (by decide) (by rw[hB2];rfl)
   rw[List.set_set]at this
   exact this
  have hlB1:=hlB (sx-x)
  refine z_tas
  exact c_round (i+1) h (by show m-(i+1)<m-i;omega) ⟨rfl,rfl,rfl,by simp[look],trivial⟩ (by rw[← e3];exact Sub.au)
 ·obtain rfl:i=m:=by omega
  refine z_tas
  exact j_out1 rfl rfl Sub.au ⟨A,c,rfl,rfl⟩
end
theorem n_pback(g:Nat)(s:NavS)(a:NvA)(w:World)(hown:Own [.blk g 109 (navE s a)] w)(hok:PrfOk s.p):
  Does Tryz.prog 128 [.pointer (some ⟨g,44,none⟩)] [.blk g 109 (navE s a)] w
   (fun v S'=>∃A c,v=.slice A s.p.n c∧S'=[.row (.slice A s.p.n c) 99 3 s.p.n (flat smpE (pBack s.p)),.blk g 109 (navE s a)]):=by
 have h:=pback_any g 109 _ _ s.p w (by rw[← navE_p s a];exact hown) hok
 rw[navE_pl,← navE_p s a]at h
 exact h
instance navcheck_cv(c:Cnf):CV Tryz.prog 8 [.agg (cnfE c).toArray] (.int .i64 (cnfC c)) True:=⟨fun _ w=>by
 have hC:cnfC c=if ¬RulesOk c then 2 else if ¬MarksOk c then 2 else if ¬NoiOk c.noi then 2 else if c.far<1∨15<c.far∨c.step<64∨2048<c.step∨c.gap<0∨65536<c.gap∨c.need<2∨64<c.need then 2 else if c.meas<0∨3<c.meas∨c.away<0∨30<c.away∨c.num<1∨1048576<c.num∨c.den<1∨1048576<c.den then 1 else if c.times<1∨65536<c.times∨c.spread<0∨85<c.spread then 1 else 0:=rfl
 have i1:=rcheck_cv c
 have i2:=wcheck_cv c
 have i3:CV Tryz.prog 27 [.agg (noiE c.noi).toArray] (.int .i64 (if NoiOk c.noi then 0 else 2)) True:=⟨fun _ w=>by
  by_cases h:NoiOk c.noi
  ·rw[if_pos h];exact(ncheck_cv c.noi).h h w
  ·rw[if_neg h];exact ncheck_no c.noi h w⟩
 generalize cnfC c=r at *
 have hx1:(if RulesOk c then (0:Int)else 2)=0∧RulesOk c∨(if RulesOk c then (0:Int)else 2)=2∧¬RulesOk c:=by split<;>simp[*]
 have hx2:(if MarksOk c then (0:Int)else 2)=0∧MarksOk c∨(if MarksOk c then (0:Int)else 2)=2∧¬MarksOk c:=by split<;>simp[*]
 have hx3:(if NoiOk c.noi then (0:Int)else 2)=0∧NoiOk c.noi∨(if NoiOk c.noi then (0:Int)else 2)=2∧¬NoiOk c.noi:=by split<;>simp[*]
 generalize (if RulesOk c then (0:Int)else 2)=r1 at *
 generalize (if MarksOk c then (0:Int)else 2)=r2 at *
 generalize (if NoiOk c.noi then (0:Int)else 2)=r3 at *
 refine does_of Tryz.func8 rfl Tryz.ntmps8 rfl ⟨by simp,.nil⟩ (fun n=>?_)
 simp only[slots]
 rcases hx1 with⟨rfl,h1⟩ | ⟨rfl,h1⟩
 ·rw[if_neg (Decidable.not_not.2 h1)]at hC
  rcases hx2 with⟨rfl,h2⟩ | ⟨rfl,h2⟩
  ·rw[if_neg (Decidable.not_not.2 h2)]at hC
   rcases hx3 with⟨rfl,h3⟩ | ⟨rfl,h3⟩
   ·rw[if_neg (Decidable.not_not.2 h3)]at hC
    clear h1 h2 h3
    refine z_tas
    refine c_dv (0::1::2::3::4::5::6::7::8::9::10::[]) ?_;intro _
    refine z_gvs
    all_goals refine c_rounds 4 ?_
    all_goals refine z_tas
    all_goals exact j_out1 rfl rfl (.nil _) ⟨congrArg (Value.int .i64) (by rw[hC];(repeat' split)<;>first|rfl|(exfalso;omega)),rfl⟩
   ·rw[if_pos h3]at hC
    subst hC
    refine z_tas
    refine c_dv (0::1::2::3::4::5::6::7::8::9::10::[]) ?_;intro _
    refine z_gvs
    all_goals refine c_rounds 4 ?_
    all_goals refine z_tas
    all_goals exact j_out1 rfl rfl (.nil _) ⟨rfl,rfl⟩
  ·rw[if_pos h2]at hC
   subst hC
   refine z_tas
   refine c_dv (0::1::2::3::4::5::6::7::8::9::10::[]) ?_;intro _
   refine z_gvs
   all_goals refine c_rounds 4 ?_
   all_goals refine z_tas
   all_goals exact j_out1 rfl rfl (.nil _) ⟨rfl,rfl⟩
 ·rw[if_pos h1]at hC
  subst hC
  refine z_tas
  refine c_dv (0::1::2::3::4::5::6::7::8::9::10::[]) ?_;intro _
  refine z_gvs
  all_goals refine c_rounds 4 ?_
  all_goals refine z_tas
  all_goals exact j_out1 rfl rfl (.nil _) ⟨rfl,rfl⟩⟩
theorem insat_any(g:Nat)(s:NavS)(a:NvA)(w:World)(hown:Own [.blk g 109 (navE s a)] w)(hL:NvL s):
  Does Tryz.prog 17 [.pointer (some ⟨g,0,none⟩)] [.blk g 109 (navE s a)] w (fun v S'=>v=.agg #[.int .i64 s.x,.int .i64 s.y]∧S'=[.blk g 109 (navE s a)]):=by
 have i1:=nv_p hL
 have i2:=nv_w hL
 refine does_of Tryz.func17 rfl Tryz.ntmps17 rfl hown (fun _=>?_)
 simp only[slots]
 refine z_tas
 refine j_outK (S':=[.blk g 109 (navE s a)]) Sub.au ?_
 refine z_rk
 exact⟨rfl,rfl⟩
theorem book_any(g:Nat)(s:NavS)(a:NvA)(w:World)(hown:Own [.blk g 109 (navE s a)] w)(hL:NvL s):
  Does Tryz.prog 32 [.pointer (some ⟨g,0,none⟩)] [.blk g 109 (navE s a)] w (fun v S'=>v=.agg (bkE s.bk).toArray∧S'=[.blk g 109 (navE s a)]):=by
 have i1:=nv_p hL
 have i2:=nv_w hL
 refine does_of Tryz.func32 rfl Tryz.ntmps32 rfl hown (fun _=>?_)
 simp only[slots]
 refine z_tas
 refine j_outK (S':=[.blk g 109 (navE s a)]) Sub.au ?_
 refine z_rk
 exact⟨rfl,rfl⟩
end Go.Proofs.YthajpemlpmlefaaGreat
namespace Go.Proofs.YthajpemlpmlefaaGreat
open Go.RowKit
theorem cells_marks:CellsT Tryz.prog 27 [.i64,.i64,.i64,.i64,.i64,.i64]:=cells_struct [[.i64],[.i64],[.i64],[.i64],[.i64],[.i64]] Tryz.underlying27 ⟨_,_,rfl,rfl,cells_i64,_,_,rfl,rfl,cells_i64,_,_,rfl,rfl,cells_in,_,_,rfl,rfl,cells_in,_,_,rfl,rfl,cells_in,_,_,rfl,rfl,cells_in,rfl⟩ (by kernel_rfl)
theorem cells_noise:CellsT Tryz.prog 29 [.i64,.i64,.i64]:=cells_struct [[.i64],[.i64],[.i64]] Tryz.underlying29 ⟨_,_,rfl,rfl,cells_i64,_,_,rfl,rfl,cells_i64,_,_,rfl,rfl,cells_i64,rfl⟩ (by kernel_rfl)
theorem cells_conf:CellsT Tryz.prog 31 [.u32,.i64,.i64,.i64,.i64,.i64,.i64,.i64,.i64,.i64,.i64,.i64,.i64,.i64,.i64,.i64,.i64,.i64,.i64,.i64,.i64,.i64,.i64]:=cells_struct [[.u32,.i64,.i64,.i64],[.i64,.i64,.i64,.i64,.i64,.i64],[.i64,.i64,.i64],[.i64],[.i64],[.i64],[.i64],[.i64],[.i64],[.i64],[.i64],[.i64],[.i64]] Tryz.underlying31 ⟨_,_,rfl,rfl,cells_rules,_,_,rfl,rfl,cells_marks,_,_,rfl,rfl,cells_noise,_,_,rfl,rfl,cells_in,_,_,rfl,rfl,cells_i64,_,_,rfl,rfl,cells_i64,_,_,rfl,rfl,cells_in,_,_,rfl,rfl,cells_in,_,_,rfl,rfl,cells_in,_,_,rfl,rfl,cells_i64,_,_,rfl,rfl,cells_i64,_,_,rfl,rfl,cells_i64,_,_,rfl,rfl,cells_i64,rfl⟩ (by kernel_rfl)
theorem un_conf:∀cs,IsRow [.u32,.i64,.i64,.i64,.i64,.i64,.i64,.i64,.i64,.i64,.i64,.i64,.i64,.i64,.i64,.i64,.i64,.i64,.i64,.i64,.i64,.i64,.i64] cs→∃a:Cnf,cnfE a=cs:=by
 rintro _ ⟨x0,_,rfl,-,x1,_,rfl,-,x2,_,rfl,-,x3,_,rfl,-,x4,_,rfl,-,x5,_,rfl,-,x6,_,rfl,-,x7,_,rfl,-,x8,_,rfl,-,x9,_,rfl,-,x10,_,rfl,-,x11,_,rfl,-,x12,_,rfl,-,x13,_,rfl,-,x14,_,rfl,-,x15,_,rfl,-,x16,_,rfl,-,x17,_,rfl,-,x18,_,rfl,-,x19,_,rfl,-,x20,_,rfl,-,x21,_,rfl,-,x22,_,rfl,-,rfl⟩
 exact⟨⟨x0,x1,x2,x3,x4,x5,x6,x7,x8,x9,⟨x10,x11,x12⟩,x13,x14,x15,x16,x17,x18,x19,x20,x21,x22⟩,rfl⟩
end Go.Proofs.YthajpemlpmlefaaGreat
