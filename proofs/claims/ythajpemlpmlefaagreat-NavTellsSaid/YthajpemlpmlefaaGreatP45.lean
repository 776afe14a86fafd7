import Derived.Test.YthajpemlpmlefaaGreatP38
import Derived.Test.YthajpemlpmlefaaGreatP43
import Derived.Test.YthajpemlpmlefaaGreatP44
set_option maxHeartbeats 512000000
set_option maxRecDepth 4000
set_option linter.unusedVariables false
set_option linter.unusedSimpArgs false
namespace Go.Proofs.YthajpemlpmlefaaGreat
open Go.RowKit
def StOk(g:Grd)(s:Rst):Prop:=(s.kind=1∧splitOk g∨s.kind=2∧joinOk g∨s.kind=3∧(-64≤s.x∧s.x≤64)∧(-64≤s.y∧s.y≤64)∧(1≤s.w∧s.w≤16)∧(1≤s.h∧s.h≤16))∧Pos30 (rawN g s).p∧0<sumL (rawN g s).p (rawN g s).p.length∧GrdOk (normG (rawN g s))∧(rawN g s).p.length≤4096
theorem chosen_ok{g:Grd}(hg:GrdOk g)(h:(chooseN g).kind≠0):StOk g (chooseN g):=by
 obtain⟨h1,h2,h3,h4⟩:=raw_ok hg h
 refine⟨?_,h2,h3,h4,?_⟩
 ·have hc:=cent_in hg
  clear h1 h2 h3 h4
  unfold chooseN at h ⊢
  split
  ·rename_i h1
   exact .inr (.inl ⟨rfl,h1.2.2.2⟩)
  split
  ·rename_i h1
   exact .inl ⟨rfl,h1.2.2.2⟩
  split
  ·exact .inr (.inr ⟨hc.2.2.2.2,hc.1,hc.2.1,hc.2.2.1,hc.2.2.2.1⟩)
  ·rename_i a b c
   rw[if_neg a,if_neg b,if_neg c]at h
   exact absurd rfl h
 ·have:=h4.len
  unfold normG at this
  dsimp only at this
  rw[normL_len]at this
  exact this.2
attribute [local irreducible] OJ J HdJ Code.wpIn wpListIn Oper.wpIn bodyPost CallsIn Does
theorem rdo_any(g:Grd)(s:Rst)(A:Option Addr)(c:Nat)(w:World)(hr:RoA w (blocks []) A g.p.length c 1 (ints .i64 g.p))(hg:GrdOk g)(hx : -4611686018427387904≤g.x∧g.x≤4611686018427387904)(hy : -4611686018427387904≤g.y∧g.y≤4611686018427387904)(hs:StOk g s):
  Does Tryz.prog 138 [.agg (grE g A c).toArray,.agg (rstE s).toArray] [] w
   (fun v S'=>∃u,v=.tuple #[u,.int .i64 (sumL g.p g.p.length),.int .i64 (sumL (rawN g s).p (rawN g s).p.length),.int .i64 0]∧GrR (normG (rawN g s)) u S'):=by
 obtain⟨hk,hp,hz,hG,hlen⟩:=hs
 have hm4:=hg.len
 have hS:=fun w hw=>gsum_any g A c w hw hg.2.2.1 hm4.2
 have h0:0<(rawN g s).p.length:=by
  rcases Nat.eq_zero_or_pos (rawN g s).p.length with h|h
  ·rw[h]at hz;exact absurd hz (by show ¬(0:Int)<0;decide)
  ·exact h
 obtain⟨sk,sx,sy,sw,sh⟩:=s
 dsimp only at hk hp hz hG hlen h0 ⊢
 have fin:∀(raw:Grd) (Ar:Option Addr) (cr:Nat),raw=rawN g ⟨sk,sx,sy,sw,sh⟩→∀w,RoA w (blocks []) Ar raw.p.length cr 1 (ints .i64 raw.p)→(Does Tryz.prog 133 [.agg (grE raw Ar cr).toArray] [] w (fun v S'=>v=.int .i64 (sumL raw.p raw.p.length)∧S'=[])∧Does Tryz.prog 145 [.agg (grE raw Ar cr).toArray] [] w (fun v S'=>∃u,v=.tuple #[u,.int .i64 0]∧GrR (normG raw) u S')):=by
  rintro raw Ar cr rfl w hw
  exact⟨gsum_any _ Ar cr w hw hp hlen,normal_any _ Ar cr w hw hp ⟨h0,hlen⟩ hz⟩
 rcases hk with⟨rfl,ho⟩ | ⟨rfl,ho⟩ | ⟨rfl,q1,q2,q3,q4⟩
 ·have hR:=fun w hw=>split_any g A c w hw hg hx hy ho
  have e:rawN g ⟨1,sx,sy,sw,sh⟩=splitG g:=rfl
  rw[e]at hp hz hG hlen h0 ⊢
  have fin2:=fun Ar cr w hw=>fin (splitG g) Ar cr rfl w hw
  clear fin hp hz hG h0
  generalize splitG g=raw at *
  obtain⟨gw,gh,gx,gy,gs,p⟩:=g
  dsimp only at hr hm4 hS hR ⊢
  dsimp only[grE]at hR hS ⊢
  dsimp only[rstE]
  clear hg
  refine does_of Tryz.func138 rfl Tryz.ntmps138 rfl ⟨by simp,.nil⟩ (fun _=>?_)
  simp only[slots]
  refine z_tas
  rename_i b2 b3 b4 b8
  refine lf rfl rfl rfl (S:=[]) (fun w hw ho=>hR w ⟨hr.h.go hw (Split.nil _)⟩) ?_
  rintro v S' ⟨u,rfl,Ar,cr,rfl,rfl⟩
  refine z_tas
  refine lfv rfl rfl rfl (fun w hw=>(fin2 Ar cr w ⟨Ro.row hw (Split.nil _) (by refine z_hs)⟩).1) ?_
  refine z_tas
  refine lf rfl rfl rfl (S:=[]) (fun w hw ho=>(fin2 Ar cr w ⟨Ro.row hw (Split.nil _) (by refine z_hs)⟩).2) ?_
  rintro v S' ⟨u,rfl,An,cn,rfl,rfl⟩
  obtain⟨nw,nh,nx,ny,ns,np⟩:=normG raw
  dsimp only[grE]
  refine z_tas
  refine c_dvL [.blk b2 63 [.int .i64 gw,.int .i64 gh,.int .i64 gx,.int .i64 gy,.int .i64 gs,.slice A p.length c],.blk b8 63 [.int .i64 nw,.int .i64 nh,.int .i64 nx,.int .i64 ny,.int .i64 ns,.slice An np.length cn]] (0::1::2::3::4::5::6::7::[]) Sub.au ?_
  intro _
  refine z_gvx
  all_goals refine lfv rfl rfl rfl (fun w hw=>hS w ⟨hr.h.go hw (Split.nil _)⟩) ?_
  all_goals refine z_gvx
  all_goals (refine j_outK (S':=[.row (.slice An np.length cn) 2 1 np.length (ints .i64 np)]) Sub.au ?_;refine z_rk;exact⟨_,rfl,An,cn,rfl,rfl⟩)
 ·have hR:=fun w hw=>join_anyG g A c w hw hg hx hy ho
  have e:rawN g ⟨2,sx,sy,sw,sh⟩=joinG g:=rfl
  rw[e]at hp hz hG hlen h0 ⊢
  have fin2:=fun Ar cr w hw=>fin (joinG g) Ar cr rfl w hw
  clear fin hp hz hG h0
  generalize joinG g=raw at *
  obtain⟨gw,gh,gx,gy,gs,p⟩:=g
  dsimp only at hr hm4 hS hR ⊢
  dsimp only[grE]at hR hS ⊢
  dsimp only[rstE]
  clear hg
  refine does_of Tryz.func138 rfl Tryz.ntmps138 rfl ⟨by simp,.nil⟩ (fun _=>?_)
  simp only[slots]
  refine z_tas
  rename_i b2 b3 b4 b8
  refine lf rfl rfl rfl (S:=[]) (fun w hw ho=>hR w ⟨hr.h.go hw (Split.nil _)⟩) ?_
  rintro v S' ⟨u,rfl,Ar,cr,rfl,rfl⟩
  refine z_tas
  refine lfv rfl rfl rfl (fun w hw=>(fin2 Ar cr w ⟨Ro.row hw (Split.nil _) (by refine z_hs)⟩).1) ?_
  refine z_tas
  refine lf rfl rfl rfl (S:=[]) (fun w hw ho=>(fin2 Ar cr w ⟨Ro.row hw (Split.nil _) (by refine z_hs)⟩).2) ?_
  rintro v S' ⟨u,rfl,An,cn,rfl,rfl⟩
  obtain⟨nw,nh,nx,ny,ns,np⟩:=normG raw
  dsimp only[grE]
  refine z_tas
  refine c_dvL [.blk b2 63 [.int .i64 gw,.int .i64 gh,.int .i64 gx,.int .i64 gy,.int .i64 gs,.slice A p.length c],.blk b8 63 [.int .i64 nw,.int .i64 nh,.int .i64 nx,.int .i64 ny,.int .i64 ns,.slice An np.length cn]] (0::1::2::3::4::5::6::7::[]) Sub.au ?_
  intro _
  refine z_gvx
  all_goals refine lfv rfl rfl rfl (fun w hw=>hS w ⟨hr.h.go hw (Split.nil _)⟩) ?_
  all_goals refine z_gvx
  all_goals (refine j_outK (S':=[.row (.slice An np.length cn) 2 1 np.length (ints .i64 np)]) Sub.au ?_;refine z_rk;exact⟨_,rfl,An,cn,rfl,rfl⟩)
 ·have hR:=fun w hw=>cut_anyG g A c sx sy sw sh w hw hg hx hy q1 q2 (by omega) (by omega)
  have e:rawN g ⟨3,sx,sy,sw,sh⟩=cutG g sx sy sw sh:=rfl
  rw[e]at hp hz hG hlen h0 ⊢
  have fin2:=fun Ar cr w hw=>fin (cutG g sx sy sw sh) Ar cr rfl w hw
  clear fin hp hz hG h0
  generalize cutG g sx sy sw sh=raw at *
  obtain⟨gw,gh,gx,gy,gs,p⟩:=g
  dsimp only at hr hm4 hS hR ⊢
  dsimp only[grE]at hR hS ⊢
  dsimp only[rstE]
  clear hg
  refine does_of Tryz.func138 rfl Tryz.ntmps138 rfl ⟨by simp,.nil⟩ (fun _=>?_)
  simp only[slots]
  refine z_tas
  rename_i b2 b3 b4 b8
  refine lf rfl rfl rfl (S:=[]) (fun w hw ho=>hR w ⟨hr.h.go hw (Split.nil _)⟩) ?_
  rintro v S' ⟨u,rfl,Ar,cr,rfl,rfl⟩
  refine z_tas
  refine lfv rfl rfl rfl (fun w hw=>(fin2 Ar cr w ⟨Ro.row hw (Split.nil _) (by refine z_hs)⟩).1) ?_
  refine z_tas
  refine lf rfl rfl rfl (S:=[]) (fun w hw ho=>(fin2 Ar cr w ⟨Ro.row hw (Split.nil _) (by refine z_hs)⟩).2) ?_
  rintro v S' ⟨u,rfl,An,cn,rfl,rfl⟩
  obtain⟨nw,nh,nx,ny,ns,np⟩:=normG raw
  dsimp only[grE]
  refine z_tas
  refine c_dvL [.blk b2 63 [.int .i64 gw,.int .i64 gh,.int .i64 gx,.int .i64 gy,.int .i64 gs,.slice A p.length c],.blk b8 63 [.int .i64 nw,.int .i64 nh,.int .i64 nx,.int .i64 ny,.int .i64 ns,.slice An np.length cn]] (0::1::2::3::4::5::6::7::[]) Sub.au ?_
  intro _
  refine z_gvx
  all_goals refine lfv rfl rfl rfl (fun w hw=>hS w ⟨hr.h.go hw (Split.nil _)⟩) ?_
  all_goals refine z_gvx
  all_goals (refine j_outK (S':=[.row (.slice An np.length cn) 2 1 np.length (ints .i64 np)]) Sub.au ?_;refine z_rk;exact⟨_,rfl,An,cn,rfl,rfl⟩)
def gseq(g:Grd):Nat→Grd
 | 0=>g
 | k+1=>normG (rawN (gseq g k) (chooseN (gseq g k)))
def Chs(g:Grd)(i:Nat):Prop:=∀j,j<i→(chooseN (gseq g j)).kind≠0
theorem Chs.up{g:Grd}{i:Nat}(h:Chs g i)(hk:(chooseN (gseq g i)).kind≠0):Chs g (i+1):=fun j hj=>by
 rcases Nat.lt_or_ge j i with h1|h1
 ·exact h j h1
 ·obtain rfl:j=i:=by omega
  exact hk
theorem Chs.down{g:Grd}{i j:Nat}(h:Chs g i)(hj:j≤i):Chs g j:=fun k hk=>h k (by omega)
theorem gseq_ok{g:Grd}(hg:GrdOk g):∀i,Chs g i→GrdOk (gseq g i)
 | 0,_=>hg
 | i+1,h=>(chosen_ok (gseq_ok hg i (h.down (by omega))) (h i (by omega))).2.2.2.1
theorem gseq_far{g:Grd}(hg:GrdOk g):∀i:Nat,Chs g i→(g.x-262144*(i:Int)≤(gseq g i).x∧(gseq g i).x≤g.x+262144*(i:Int))∧(g.y-262144*(i:Int)≤(gseq g i).y∧(gseq g i).y≤g.y+262144*(i:Int))
 | 0,_=>by show (g.x-262144*((0:Nat):Int)≤g.x∧g.x≤_)∧_;exact⟨⟨by omega,by omega⟩,by show _≤g.y;omega,by show g.y≤_;omega⟩
 | i+1,h=>by
  have h1:=gseq_far hg i (h.down (by omega))
  have h2:=raw_far (gseq_ok hg i (h.down (by omega))) (h i (by omega))
  have ex:(gseq g (i+1)).x=(rawN (gseq g i) (chooseN (gseq g i))).x:=rfl
  have ey:(gseq g (i+1)).y=(rawN (gseq g i) (chooseN (gseq g i))).y:=rfl
  rw[ex,ey]
  push_cast
  omega
def NearG(g:Grd):Prop:=(-2305843009213693952≤g.x∧g.x≤2305843009213693952)∧(-2305843009213693952≤g.y∧g.y≤2305843009213693952)
theorem gseq_in{g:Grd}(hg:GrdOk g)(hn:NearG g)(i:Nat)(hi:i≤4)(h:Chs g i):GrdOk (gseq g i)∧(-4611686018427387904≤(gseq g i).x∧(gseq g i).x≤4611686018427387904)∧(-4611686018427387904≤(gseq g i).y∧(gseq g i).y≤4611686018427387904):=by
 have h1:=gseq_far hg i h
 unfold NearG at hn
 exact⟨gseq_ok hg i h,by omega,by omega⟩
theorem regs_any(g:Grd)(A:Option Addr)(c:Nat)(w:World):Does Tryz.prog 137 [.agg (grE g A c).toArray] [] w
  (fun v S'=>∃gb,v=.func (.func 191) #[] #[.pointer (some ⟨gb,0,none⟩)]∧S'=[.blk gb 63 (grE g A c)]):=by
 obtain⟨gw,gh,gx,gy,gs,p⟩:=g
 dsimp only[grE]
 refine does_of Tryz.func137 rfl Tryz.ntmps137 rfl ⟨by simp,.nil⟩ (fun _=>?_)
 simp only[slots]
 refine z_tas
 exact j_out1 rfl rfl Sub.au ⟨_,rfl,rfl⟩
theorem regs1_any(lp gb:Nat)(g:Grd)(A:Option Addr)(c:Nat)(w:World)(S:List HE)(I:Nat→List HE→Prop)(hg:GrdOk g)(hfar:NearG g)
  (hown:Own (.blk gb 63 (grE g A c)::S) w)
  (hr:RoA w (blocks (.blk gb 63 (grE g A c)::S)) A g.p.length c 1 (ints .i64 g.p)) (h0:I 0 S)
  (hy:∀i S' A' c',i<4→Chs g (i+1)→I i S'→∀w',Own S' w'→RoTo w (blocks (.blk gb 63 (grE g A c)::S)) w' (blocks S')→RoA w' (blocks S') A' (gseq g i).p.length c' 1 (ints .i64 (gseq g i).p) →
   Yields Tryz.prog lp [.agg (grE (gseq g i) A' c').toArray,.agg (rstE (chooseN (gseq g i))).toArray] S' w' (fun v S''=>v=.bool true∧I (i+1) S'')) :
  Does Tryz.prog 191 [.func (.yield lp) #[] #[],.pointer (some ⟨gb,0,none⟩)] (.blk gb 63 (grE g A c)::S) w
   (fun v S'=>v=.tuple #[]∧∃i S1 X,S'=.blk gb 63 X::S1∧i≤4∧Chs g i∧(i=4∨(chooseN (gseq g i)).kind=0)∧I i S1):=by
 refine does_of Tryz.func191 rfl Tryz.ntmps191 rfl hown (fun n=>?_)
 simp only[slots]
 refine j_nil (e:=2) (size:=1) ?_
 refine z_tas
 refine c_loop (X:=Nat×(Option Addr×Nat)×(Option Addr×Nat)×List Int×List HE)
  (fun q=>q.1≤4∧Chs g q.1∧(q.1=0∧q.2.1=(A,c)∨q.2.1=q.2.2.1∧q.2.2.2.1=(gseq g q.1).p)∧I q.1 q.2.2.2.2)
  (fun q=>[(0,.func (.yield lp) #[] #[]),(1,.pointer (some ⟨gb,0,none⟩)),(8,.int .i64 q.1)])
  (fun q=>.row (.slice q.2.2.1.1 q.2.2.2.1.length q.2.2.1.2) 2 1 q.2.2.2.1.length (ints .i64 q.2.2.2.1)::.blk gb 63 (grE (gseq g q.1) q.2.1.1 q.2.1.2)::q.2.2.2.2) (fun q=>4-q.1) (0,(A,c),(none,0),[],S)
  ⟨by show 0≤4;omega,fun j hj=>absurd hj (by show ¬j<0;omega),.inl ⟨rfl,rfl⟩,h0⟩ ⟨rfl,rfl,rfl,trivial⟩ (Sub.refl _) ?_
 rintro⟨i,⟨A1,c1⟩,⟨Ap,cp⟩,xs,S1⟩ ⟨hi,hC,hA,hI⟩
 dsimp only at hi hC hA hI ⊢
 obtain⟨hGi,hxi,hyi⟩:=gseq_in hg hfar i hi hC
 have hRo:∀(T H1 R1 Q:List HE) (w1:World),St w (blocks (.blk gb 63 (grE g A c)::S)) H1 w1→Split H1 T R1→Has R1 (.row (.slice Ap xs.length cp) 2 1 xs.length (ints .i64 xs)) Q→RoA w1 (blocks T) A1 (gseq g i).p.length c1 1 (ints .i64 (gseq g i).p):=by
  intro T H1 R1 Q w1 hw hs hm
  rcases hA with⟨e0,e⟩ | ⟨e1,e2⟩
  ·injection e with e1 e2
   subst e0 e1 e2
   exact⟨hr.h.go hw hs⟩
  ·injection e1 with e3 e4
   subst e2 e3 e4
   exact⟨Ro.row hw hs hm⟩
 have hCh:=fun w hw=>choose_any (gseq g i) A1 c1 w hw hGi hxi hyi
 have hnx:gseq g (i+1)=normG (rawN (gseq g i) (chooseN (gseq g i))):=rfl
 have hDo:=fun hk w hw=>rdo_any (gseq g i) (chooseN (gseq g i)) A1 c1 w hw hGi hxi hyi (chosen_ok hGi hk)
 have hY:=fun h4 hk=>hy i S1 A1 c1 h4 (hC.up hk) hI
 clear hA hy
 rcases Nat.lt_or_ge i 4 with h|h
 ·have hup:=fun hk=>hC.up hk
  rw[← hnx]at hDo
  have hY:=hY h
  have hend:(chooseN (gseq g i)).kind=0→∀X:List Value,(fun (v:Value) (S':List HE)=>v=.tuple #[]∧∃i S1 X,S'=.blk gb 63 X::S1∧i≤4∧Chs g i∧(i=4∨(chooseN (gseq g i)).kind=0)∧I i S1) (.tuple #[]) (.blk gb 63 X::S1):=fun hk X=>⟨rfl,i,S1,X,rfl,hi,hC,.inr hk,hI⟩
  obtain⟨ng,hng⟩:∃x,gseq g (i+1)=x:=⟨_,rfl⟩
  rw[hng]at hnx hDo
  generalize chooseN (gseq g i)=ce at *
  generalize gseq g i=gi at *
  obtain⟨sk,sx,sy,sw,sh⟩:=ce
  obtain⟨gw,gh,gx,gy,gs,p⟩:=gi
  dsimp only at *
  dsimp only[grE,rstE]at *
  refine z_tas
  refine lfv rfl rfl rfl (fun w1 hw=>hCh w1 (hRo [] _ _ _ w1 hw (Split.nil _) (by refine z_hs))) ?_
  by_cases hk:sk=0
  ·subst hk
   refine z_tas
   exact j_outN rfl (Sub.appT (S:=[.blk gb 63 _]) (H:=[_,_,_]) S1 (Sub.cons (.there _ (.there _ (.here _ _))) (Sub.nil _))) (hend rfl _)
  ·have iN:∀w0 W H t u a b,MS Tryz.prog w0 W H (.binOp .neq t a b u) [.int .i64 sk,.int .i64 0] (.bool true) True:=fun _ _ _ _ _ _ _=>msM inferInstance trivial (congrArg Value.bool (by simpa using hk))
   refine z_tas
   refine lf rfl rfl rfl (S:=[]) (fun w1 hw ho=>hDo hk w1 (hRo [] _ _ _ w1 hw (Split.nil _) (by refine z_hs))) ?_
   rintro v S' ⟨u,rfl,An,cn,rfl,rfl⟩
   obtain⟨nw,nh,nx,ny,ns,np⟩:=ng
   have hgn:=hng.symm
   dsimp only[grE]at *
   refine z_tas
   refine lyl rfl rfl rfl (Split.preT S1 [_,_,_,_,_]) rfl (fun w1 hw ho=>hY hk w1 ho (fun _ _ _ _ h=>h.go hw (Split.preT S1 [_,_,_,_,_])) (hRo S1 _ _ _ w1 hw (Split.preT S1 [_,_,_,_,_]) (by refine z_hs))) ?_
   rintro v S3 ⟨rfl,hI3⟩
   refine j_swapT ?_
   simp only[List.cons_append,List.nil_append]
   refine z_tas
   exact c_round (i+1,(An,cn),(An,cn),np,S3) ⟨h,hup hk,.inr ⟨rfl,congrArg Grd.p hgn⟩,hI3⟩ (by show 4-(i+1)<4-i;omega) ⟨rfl,rfl,by simp[look],trivial⟩ (by
    dsimp only
    rw[hng]
    exact Sub.appT (S:=[_,_]) (H:=[_,_,_,_,_]) S3 (Sub.cons (.there _ (.here _ _)) (Sub.cons (.there _ (.there _ (.there _ (.here _ _)))) (Sub.nil _))))
 ·obtain rfl:i=4:=by omega
  refine z_tas
  exact j_outN rfl (Sub.appT (S:=[.blk gb 63 _]) (H:=[_,_]) S1 (Sub.cons (.there _ (.here _ _)) (Sub.nil _))) ⟨rfl,4,S1,_,rfl,hi,hC,.inl rfl,hI⟩
section
variable {n N:Nat} {ds:List Deferred} {w0:World} {W:Nat→Prop} {σ:List (Nat×Value)} {H:List HE} {Q:Exit→Act→World→Prop} {g0:Operand} {ps:Array Tmp} {assign body:Code} {gb:Nat} {g:Grd} {A:Option Addr} {c:Nat} {S R:List HE}
theorem c_regs(I:Nat→List HE→Prop)
  (hx:ev σ g0=some (.func (.func 191) #[] #[.pointer (some ⟨gb,0,none⟩)])) (hs:Split H (.blk gb 63 (grE g A c)::S) R) (hg:GrdOk g) (hfar:NearG g)
  (hr:∀x y w1,St w0 W (x::y::H) w1→Ro w1 (blocks (x::.blk gb 63 (grE g A c)::S)) 1 (.slice A g.p.length c) g.p.length (ints .i64 g.p)) (h0:I 0 S)
  (hy:∀lp i S1 A' c',i<4→Chs g (i+1)→I i S1→∀w1,Own (.loop lp N σ ps assign body .ready none::S1) w1→RoTo w0 W w1 (blocks (.loop lp N σ ps assign body .ready none::S1))→RoA w1 (blocks (.loop lp N σ ps assign body .ready none::S1)) A' (gseq g i).p.length c' 1 (ints .i64 (gseq g i).p) →
   Yields Tryz.prog lp [.agg (grE (gseq g i) A' c').toArray,.agg (rstE (chooseN (gseq g i))).toArray] (.loop lp N σ ps assign body .ready none::S1) w1
   (fun v S2=>v=.bool true∧∃S3,S2=.loop lp N σ ps assign body .ready none::S3∧I (i+1) S3))
  (hn:∀d i S1,i≤4→Chs g i→(i=4∨(chooseN (gseq g i)).kind=0)→I i S1→J N (mk d::ds) w0 W σ (S1++.obj d (.deferred (some []))::R) (Q .normal)):J N ds w0 W σ H ((Code.rangeFunc g0 ps assign body).wpIn Fence.wide n Tryz.prog Q):=by
 refine c_range (Rp:=fun d lp pend S1=>pend=none∧∃i S2 X,S1=.blk gb 63 X::S2∧i≤4∧Chs g i∧(i=4∨(chooseN (gseq g i)).kind=0)∧I i S2) hx hs (fun d lp w1 LE hLE hw ho=>?_) ?_
 ·have hp:=one_perm LE (.blk gb 63 (grE g A c)) S
  have hr1:=hr _ _ w1 hw
  rw[blocks_perm hp]at hr1
  refine Does.conv (regs1_any lp gb g A c w1 (LE::S) (fun i S'=>∃S1,S'=LE::S1∧I i S1) hg hfar (ho.perm hp) ⟨hr1⟩ ⟨S,rfl,h0⟩ ?_) hp.symm ?_
  ·rintro i S' A' c' hi hC ⟨S1,rfl,hI⟩ w2 ho2 hro hra
   rw[← blocks_perm hp]at hro
   subst hLE
   exact hy lp i S1 A' c' hi hC hI w2 ho2 (fun _ _ _ _ h=>hro _ _ _ _ (h.go hw (.cons (.here _ _) (split_push _ hs)))) hra
  ·rintro v S' ⟨-,i,S1,X,rfl,hi,hC,he,S2,rfl,hI⟩
   exact⟨_,one_perm _ _ _,.ready,none,_,by rw[hLE],by simp,rfl,i,S2,X,rfl,hi,hC,he,hI⟩
 ·rintro d lp pend S1 ⟨rfl,i,S2,X,rfl,hi,hC,he,hI⟩
  exact⟨fun _=>j_perm (Sub.skip (Sub.refl _) _) (hn d i S2 hi hC he hI),fun c h=>by cases h⟩
theorem c_regsO(I:Nat→List HE→Prop){R':List HE}
  (hx:ev σ g0=some (.func (.func 191) #[] #[.pointer (some ⟨gb,0,none⟩)])) (hs:Split H (.blk gb 63 (grE g A c)::S) R) (hg:GrdOk g) (hfar:NearG g)
  (hm:Has R (.row (.slice A g.p.length c) 2 1 g.p.length (ints .i64 g.p)) R') (h0:I 0 S)
  (hy:∀lp i S1 A' c',i<4→Chs g (i+1)→I i S1→∀w1,Own (.loop lp N σ ps assign body .ready none::S1) w1→RoTo w0 W w1 (blocks (.loop lp N σ ps assign body .ready none::S1))→RoA w1 (blocks (.loop lp N σ ps assign body .ready none::S1)) A' (gseq g i).p.length c' 1 (ints .i64 (gseq g i).p) →
   Yields Tryz.prog lp [.agg (grE (gseq g i) A' c').toArray,.agg (rstE (chooseN (gseq g i))).toArray] (.loop lp N σ ps assign body .ready none::S1) w1
   (fun v S2=>v=.bool true∧∃S3,S2=.loop lp N σ ps assign body .ready none::S3∧I (i+1) S3))
  (hn:∀d i S1,i≤4→Chs g i→(i=4∨(chooseN (gseq g i)).kind=0)→I i S1→J N (mk d::ds) w0 W σ (S1++.obj d (.deferred (some []))::R) (Q .normal)):J N ds w0 W σ H ((Code.rangeFunc g0 ps assign body).wpIn Fence.wide n Tryz.prog Q) :=
 c_regs I hx hs hg hfar (fun _ y _ hw=>Ro.row hw (.cons (.here _ _) (split_push y hs)) (.there y hm)) h0 hy hn
end
theorem navE_l(s:NavS)(a:NvA):navE s a=(cnK s.cf++[.pointer a.ptr])++(lnE s.ln++prT s.p (watT s.cf s.w (tlE s a))):=by
 simp only[navE,List.append_assoc,List.singleton_append];rfl
theorem navE_p(s:NavS)(a:NvA):navE s a=(cnK s.cf++(.pointer a.ptr::lnK s.ln))++prT s.p (watT s.cf s.w (tlE s a)):=by
 simp only[navE,List.append_assoc,List.cons_append]
theorem navE_w(s:NavS)(a:NvA):navE s a=(cnK s.cf++(.pointer a.ptr::(lnK s.ln++prT s.p [])))++watT s.cf s.w (tlE s a):=by
 simp only[navE,prT,List.append_assoc,List.cons_append,List.nil_append]
theorem navE_u(s:NavS)(a:NvA):navE s a=(cnK s.cf++(.pointer a.ptr::(lnK s.ln++prT s.p (watT s.cf s.w []))))++(.bool s.sat::.int .i64 s.sums::(tlE s a).drop 2):=by
 simp only[navE,prT,watT,tlE,List.append_assoc,List.cons_append,List.nil_append,List.drop]
theorem navE_ll(s:NavS)(a:NvA):(cnK s.cf++[Value.pointer a.ptr]).length=24:=rfl
theorem navE_pl(s:NavS)(a:NvA):(cnK s.cf++(.pointer a.ptr::lnK s.ln)).length=44:=rfl
theorem navE_wl{s:NavS}(h:NvL s)(a:NvA):(cnK s.cf++(.pointer a.ptr::(lnK s.ln++prT s.p []))).length=241:=by
 have:=(nv_p h).h
 have h1:(cnK s.cf).length=23:=rfl
 have h2:(lnK s.ln).length=20:=rfl
 simp only[List.length_append,List.length_cons,prT,this,h1,h2,List.length_nil]
theorem navE_ul{s:NavS}(h:NvL s)(a:NvA):(cnK s.cf++(.pointer a.ptr::(lnK s.ln++prT s.p (watT s.cf s.w [])))).length=281:=by
 have:=(nv_p h).h
 have:=(nv_w h).h
 have h1:(cnK s.cf).length=23:=rfl
 have h2:(lnK s.ln).length=20:=rfl
 simp only[List.length_append,List.length_cons,prT,watT,List.length_nil, *]
section
variable (g:Nat) (s:NavS) (a:NvA) (w:World)
theorem n_uadd(x y:Int)(hown:Own [.blk g 109 (navE s a)] w)(hL:NvL s)(hx:InR .i64 x)(hy:InR .i64 y):
  Does Tryz.prog 80 [.pointer (some ⟨g,281,none⟩),.int .i64 x,.int .i64 y] [.blk g 109 (navE s a)] w
   (fun v S'=>v=.int .i64 (addN x y)∧S'=[.blk g 109 (navE { s with sat:=s.sat||endN x y,sums:=IntKind.i64.wrap (s.sums+1) } a)]):=by
 have h:=uadd_any g 109 _ _ s.sat s.sums x y w (by rw[← navE_u s a];exact hown) hx hy
 rw[navE_ul hL,← navE_u s a]at h
 exact h.mono fun v S' ⟨h1,h2⟩=>⟨h1,by rw[h2,navE_u { s with sat:=s.sat||endN x y,sums:=IntKind.i64.wrap (s.sums+1) }];rfl⟩
theorem n_pmove(dx dy:Int)(hown:Own [.blk g 109 (navE s a)] w)(hok:PrfOk s.p):
  Does Tryz.prog 81 [.pointer (some ⟨g,44,none⟩),.int .i64 dx,.int .i64 dy] [.blk g 109 (navE s a)] w
   (fun v S'=>v=.bool (pMove s.p dx dy).2∧S'=[.blk g 109 (navE { s with p:=(pMove s.p dx dy).1 } a)]):=by
 have h:=pmove_any g 109 _ _ s.p dx dy w (by rw[← navE_p s a];exact hown) hok
 rw[navE_pl,← navE_p s a]at h
 exact h.mono fun v S' ⟨h1,h2⟩=>⟨h1,by rw[h2,navE_p { s with p:=(pMove s.p dx dy).1 }]⟩
theorem n_pclear(hown:Own [.blk g 109 (navE s a)] w)(hok:PrfOk s.p):
  Does Tryz.prog 82 [.pointer (some ⟨g,44,none⟩)] [.blk g 109 (navE s a)] w
   (fun v S'=>v=.tuple #[]∧S'=[.blk g 109 (navE { s with p:=pNew s.p.gap } a)]):=by
 have h:=pclear_any g 109 _ _ s.p w (by rw[← navE_p s a];exact hown) hok
 rw[navE_pl,← navE_p s a]at h
 exact h.mono fun v S' ⟨h1,h2⟩=>⟨h1,by rw[h2,navE_p { s with p:=pNew s.p.gap }]⟩
theorem n_plen(hown:Own [.blk g 109 (navE s a)] w)(hok:PrfOk s.p):
  Does Tryz.prog 76 [.pointer (some ⟨g,44,none⟩)] [.blk g 109 (navE s a)] w
   (fun v S'=>v=.int .i64 s.p.n∧S'=[.blk g 109 (navE s a)]):=by
 have h:=plen_any g 109 _ _ s.p w (by rw[← navE_p s a];exact hown) hok
 rw[navE_pl,← navE_p s a]at h
 exact h
theorem n_padd(z:Int)(hown:Own [.blk g 109 (navE s a)] w)(hok:PrfOk s.p):
  Does Tryz.prog 75 [.pointer (some ⟨g,44,none⟩),.int .i64 z] [.blk g 109 (navE s a)] w
   (fun v S'=>∃b,v=.bool b∧S'=[.blk g 109 (navE { s with p:=pAdd s.p z } a)]):=by
 have h:=padd_any g 109 _ _ s.p z w (by rw[← navE_p s a];exact hown) hok
 rw[navE_pl,← navE_p s a]at h
 exact h.mono fun v S' ⟨b,h1,h2⟩=>⟨b,h1,by rw[h2,navE_p { s with p:=pAdd s.p z }]⟩
theorem n_wmissed(hown:Own [.blk g 109 (navE s a)] w)(hL:NvL s)(hok:WtOk s.cf s.w):
  Does Tryz.prog 132 [.pointer (some ⟨g,241,none⟩)] [.blk g 109 (navE s a)] w
   (fun v S'=>v=.tuple #[]∧S'=[.blk g 109 (navE { s with w:={ s.w with miss:=s.w.miss+1 } } a)]):=by
 have h:=wmissed_any g 109 _ _ s.cf s.w w (by rw[← navE_w s a];exact hown) hok
 rw[navE_wl hL,← navE_w s a]at h
 exact h.mono fun v S' ⟨h1,h2⟩=>⟨h1,by rw[h2,navE_w { s with w:={ s.w with miss:=s.w.miss+1 } }]⟩
theorem n_wfound(z q:Int)(hown:Own [.blk g 109 (navE s a)] w)(hL:NvL s)(hok:WtOk s.cf s.w)(hz:0<z∧z≤1152921504606846976)(hq:0<q∧q≤1073741824):
  Does Tryz.prog 135 [.pointer (some ⟨g,241,none⟩),.agg (wideV z).toArray,.int .i64 q] [.blk g 109 (navE s a)] w
   (fun v S'=>v=.int .i64 (surN z q)∧S'=[.blk g 109 (navE { s with w:=wFound s.cf s.w z q } a)]):=by
 have h:=wfound_any g 109 _ _ s.cf s.w z q w (by rw[← navE_w s a];exact hown) hok hz hq
 rw[navE_wl hL,← navE_w s a]at h
 exact h.mono fun v S' ⟨h1,h2⟩=>⟨h1,by rw[h2,navE_w { s with w:=wFound s.cf s.w z q }]⟩
theorem n_take(f:Frm)(hown:Own [.blk g 109 (navE s a)] w)(hok:s.ln.ok)(ha : -2147483648≤f.a∧f.a<2147483648):
  Does Tryz.prog 34 [.pointer (some ⟨g,24,none⟩),.agg (frmE f).toArray] [.blk g 109 (navE s a)] w
   (fun v S'=>v=.tuple #[.int .i64 (s.ln.take f.kind f.seq f.time f.a).2.1,.int .i64 (s.ln.take f.kind f.seq f.time f.a).2.2.1,.bool (s.ln.take f.kind f.seq f.time f.a).2.2.2]∧S'=[.blk g 109 (navE { s with ln:=(s.ln.take f.kind f.seq f.time f.a).1 } a)]):=by
 have h:=takeE_in g 109 (cnK s.cf++[.pointer a.ptr]) _ s.ln f w (by rw[← navE_l s a];exact hown) hok ha
 rw[navE_ll,← navE_l s a]at h
 exact h.mono fun v S' ⟨h1,h2⟩=>⟨h1,by rw[h2,navE_l { s with ln:=(s.ln.take f.kind f.seq f.time f.a).1 }]⟩
end
def OutR(out:List Frm)(v:Value)(S:List HE):Prop:=∃A c,v=.slice A out.length c∧S=[.row (.slice A out.length c) 50 6 out.length (flat frmE out)]
theorem correct_v(s:NavS)(A:Option Addr)(c:Nat)(w:World)(hr:RoA w (blocks []) A s.g.p.length c 1 (ints .i64 s.g.p))(hg:GrdOk s.g)(hx : -4611686018427387904≤s.g.x∧s.g.x≤4611686018427387904)(hy : -4611686018427387904≤s.g.y∧s.g.y≤4611686018427387904):
  Does Tryz.prog 71 [.agg (grE s.g A c).toArray,.agg #[.int .i64 s.x,.int .i64 s.y],.int .u16 s.seq,.int .u32 s.time] [] w
   (fun v S'=>v=.tuple #[.agg (frmE ((correctN s).getD ⟨0,0,0,0,0,0⟩)).toArray,.bool (correctN s).isSome]∧S'=[]) :=
 (correct_any s A c w hr hg hx hy).mono (by
  rintro v S' ⟨⟨f,hf,rfl⟩ | ⟨hf,rfl⟩,rfl⟩<;>rw[hf]<;>exact⟨rfl,rfl⟩)
theorem tell_any(g k:Nat)(s:NavS)(a:NvA)(w:World)(hown:Own [.blk g 109 (navE s a)] w)(hN:NavOk s k)(hk:k≤16777217)(hr:RoA w (blocks [.blk g 109 (navE s a)]) a.Ag s.g.p.length a.cg 1 (ints .i64 s.g.p)):
  Does Tryz.prog 33 [.pointer (some ⟨g,0,none⟩)] [.blk g 109 (navE s a)] w (fun v S'=>∃So,OutR (tellN s).2 v So∧S'=So++[.blk g 109 (navE (tellN s).1 a)]):=by
 have hF:=fun w ho hr=>flags_any g k s a w ho hN (by omega) hr
 have hfe:flagsN { s with seq:=(s.seq+1)%65536 } = flagsN s:=rfl
 have hT:tellN s=({ s with seq:=(s.seq+1)%65536 },if s.mode=2∧flagsN s=0 then (match correctN { s with seq:=(s.seq+1)%65536 } with|some c=>[⟨7,(s.seq+1)%65536,s.time,s.mode,flagsN s,0⟩,c]|none=>[⟨7,(s.seq+1)%65536,s.time,s.mode,flagsN s,0⟩])else [⟨7,(s.seq+1)%65536,s.time,s.mode,flagsN s,0⟩]):=by
  unfold tellN
  dsimp only
  rw[hfe]
  rfl
 have hC:=fun hd (w:World) hw=>correct_v { s with seq:=(s.seq+1)%65536 } a.Ag a.cg w hw (hN.g hd).1 (by have:=(hN.g hd).2.1;dsimp only;omega) (by have:=(hN.g hd).2.2;dsimp only;omega)
 have i1:=nv_p hN.nvl
 have i2:=nv_w hN.nvl
 have hmd:=hN.mode
 have hsq:=hN.seq
 rw[hT]
 generalize flagsN s=fl at *
 generalize correctN { s with seq:=(s.seq+1)%65536 } = cr at *
 have iV:=valid_cv s.mode fl
 have iT:=tell_cv s.mode fl ((s.seq+1)%65536) s.time
 have iw:IntKind.u16.wrap (s.seq+1)=(s.seq+1)%65536:=by simp[IntKind.wrap,IntKind.signed,IntKind.bits]
 refine does_of Tryz.func33 rfl Tryz.ntmps33 rfl hown (fun _=>?_)
 simp only[slots]
 by_cases hv:s.mode=2∧fl=0
 ·rw[decide_eq_true hv]at iV
  rw[if_pos hv]
  have hC2:=hC (by rw[hv.1];rfl)
  clear hC
  refine z_tas
  refine lf rfl rfl rfl (S:=[.blk g 109 (navE s a)]) (fun w hw ho=>hF w ho ⟨hr.h.go hw Split.au⟩) ?_
  rintro v S' ⟨rfl,rfl⟩
  refine z_tas
  rw[iw]
  refine c_drx _ [true,true,true,true,true,true,true,true,true,true,true,true,true,false,false,false] [13,14,15] (Sub.refl _) rfl (by decide) (by decide +kernel) ?_
  repeat' (first|refine x_skip rfl rfl rfl ?_|(refine x_run rfl rfl rfl ?_ ?_;(next=>first|exact trivial|omega))|refine x_nil ?_)
  refine t_weakV ?_
  intro _
  refine z_gvx
  rename_i b
  refine c_joinE2 (X:=Nat) (fun _=>True) (fun q=>[(4,.slice (some ⟨b,0,none⟩) 1 1),(5,.pointer (some ⟨q,0,none⟩)),(6,.bool cr.isSome)])
   (fun q=>[.blk q 50 (frmE (cr.getD ⟨0,0,0,0,0,0⟩)),.row (.slice (some ⟨b,0,none⟩) 1 1) 50 6 1 (flat frmE [⟨7,(s.seq+1)%65536,s.time,s.mode,fl,0⟩]),.blk g 109 (navE { s with seq:=(s.seq+1)%65536 } a)]) ?_ ?_
  ·refine c_drx [.blk g 109 (navE { s with seq:=(s.seq+1)%65536 } a)] [true,true,true,true,true,true,true,true,true,true,true,true,true,true,true,true,false,false,false,false,false,false,false] [16,17,18,19,20,21,22] Sub.au rfl (by decide) (by decide +kernel) ?_
   repeat' (first|refine x_skip rfl rfl rfl ?_|(refine x_run rfl rfl rfl ?_ ?_;(next=>first|exact trivial|omega))|refine x_nil ?_)
   refine t_weakV ?_
   intro _
   refine z_gvx
   all_goals refine lfv rfl rfl rfl (fun w hw=>hC2 w ⟨hr.h.go hw (Split.nil _)⟩) ?_
   all_goals refine z_gvx
   all_goals (rename_i bq;exact c_round bq trivial trivial ⟨rfl,rfl,rfl,trivial⟩ (Sub.cons (.here _ _) (Sub.cons (.here _ _) (Sub.cons (.here _ _) (Sub.nil _)))))
  ·rintro q -
   cases cr with
   | none =>
    refine z_tas
    exact j_out1 (S':=[.row (.slice (some ⟨b,0,none⟩) 1 1) 50 6 1 (flat frmE [⟨7,(s.seq+1)%65536,s.time,s.mode,fl,0⟩]),.blk g 109 (navE { s with seq:=(s.seq+1)%65536 } a)]) rfl rfl (Sub.cons (.there _ (.here _ _)) (Sub.cons (.there _ (.here _ _)) (Sub.nil _))) ⟨[_],⟨_,_,rfl,rfl⟩,rfl⟩
   | some cc2 =>
    have i3:UnE frmE [.int .i64 cc2.kind,.int .u16 cc2.seq,.int .u32 cc2.time,.int .i32 cc2.a,.int .i32 cc2.b,.int .i32 cc2.c] cc2:=⟨rfl⟩
    dsimp only[Option.getD_some,Option.isSome_some]
    refine z_tas
    rename_i A2 c2
    exact j_out1 (S':=[.row (.slice A2 2 c2) 50 6 2 (flat frmE ([⟨7,(s.seq+1)%65536,s.time,s.mode,fl,0⟩]++[cc2])),.blk g 109 (navE { s with seq:=(s.seq+1)%65536 } a)]) rfl rfl (Sub.cons (.there _ (.there _ (.here _ _))) (Sub.cons (.there _ (.there _ (.here _ _))) (Sub.nil _))) ⟨[_],⟨_,_,rfl,rfl⟩,rfl⟩
 ·rw[decide_eq_false hv]at iV
  rw[if_neg hv]
  clear hC
  refine z_tas
  refine lf rfl rfl rfl (S:=[.blk g 109 (navE s a)]) (fun w hw ho=>hF w ho ⟨hr.h.go hw Split.au⟩) ?_
  rintro v S' ⟨rfl,rfl⟩
  refine z_tas
  rw[iw]
  refine c_drx _ [true,true,true,true,true,true,true,true,true,true,true,true,true,false,false,false] [13,14,15] (Sub.refl _) rfl (by decide) (by decide +kernel) ?_
  repeat' (first|refine x_skip rfl rfl rfl ?_|(refine x_run rfl rfl rfl ?_ ?_;(next=>first|exact trivial|omega))|refine x_nil ?_)
  refine t_weakV ?_
  intro _
  refine z_gvx
  rename_i b;exact j_out1 (S':=[.row (.slice (some ⟨b,0,none⟩) 1 1) 50 6 1 (flat frmE [⟨7,(s.seq+1)%65536,s.time,s.mode,fl,0⟩]),.blk g 109 (navE { s with seq:=(s.seq+1)%65536 } a)]) rfl rfl (Sub.cons (.here _ _) (Sub.cons (.here _ _) (Sub.nil _))) ⟨[_],⟨_,_,rfl,rfl⟩,rfl⟩
end Go.Proofs.YthajpemlpmlefaaGreat
namespace Go.Proofs.YthajpemlpmlefaaGreat
open Go.RowKit
theorem look_coreE{F:Fence}{n:Nat}{P:Program}{w0:World}{W:Nat→Prop}{HL:List HE}{Q:Exit→Act→World→Prop}{ops:Array Oper}{mask:List Bool}[hF:Wide F]{i d:Nat}{o:Oper}{v:Value}{L:Nat→Option Value}
  (hio:ops[i]? = some o) (hd:o.dst=some d)
  (hpl:∀(j:Nat) (o':Oper),ops[j]? = some o'→plainB o'=true)
  (hoth:∀(j:Nat) (o':Oper),j≠i→ops[j]? = some o'→o'.dst≠some d∧(d∈o'.looksAt ops→edgeB ops j i=true))
  (hval:∀a:Act,(∀t∈o.looksAt ops,∀u,L t=some u→a.tmps[t]? = some u)→(Region.wanted o (yielded ops a.tmps)=true∧∀w,St w0 W HL w→(execOp a.eval o).run P w=.ok (.value v) w)∨(Region.wanted o (yielded ops a.tmps)=false∧v=undef)) :
  ∀(m:Nat) (rest:List Nat) (a:Act) (w:World),i∈rest→rest.length≤m+1→(∀j∈rest,edgeB ops j i=true∨litB ops mask j=false)→(∀j∈rest,∀t,dstAt ops j=some t→t ∉ o.looksAt ops)→St w0 W HL w →
   (∀t∈o.looksAt ops,∀u,L t=some u→a.tmps[t]? = some u)→wpT F n P w0 W HL ops mask Q m (rest.erase i) (a.put (some d) v) w→wpT F n P w0 W HL ops mask Q (m+1) rest a w:=by
 have hnd:∀(j:Nat) (o':Oper),ops[j]? = some o'→∀c,o'.op≠.defer c:=by
  intro j o' h c e
  have:=hpl j o' h
  unfold plainB at this;rw[e]at this;cases this
 have hme:∀(m:Nat) (rest:List Nat) (a:Act) (w:World),St w0 W HL w→(∀t∈o.looksAt ops,∀u,L t=some u→a.tmps[t]? = some u)→wpT F n P w0 W HL ops mask Q m (rest.erase i) (a.put (some d) v) w →
   wpListIn F n P ops (nq fun _ b' w'=>(litB ops mask i=true∨St w0 W HL w')∧wpT F n P w0 W HL ops mask Q m (rest.erase i) b' w') [o] a w:=by
  intro m rest a w hst ha h
  simp only[wpListIn]
  rcases hval a ha with⟨hw1,hw2⟩ | ⟨hw1,hw2⟩
  ·rw[if_pos hw1]
   refine⟨fun f _=>hF.out.fn f,?_⟩
   rw[Oper.semAt_plain F _ _ (hnd i o hio),hw2 w hst,Oper.uponIn_value,hd]
   exact⟨.inr hst,h⟩
  ·rw[if_neg (by rw[hw1];simp)]
   refine⟨fun f _=>hF.out.fn f,?_⟩
   rw[hd]
   subst hw2
   exact⟨.inr hst,h⟩
 intro m
 induction m with
 | zero =>
  intro rest a w hi hlen hlit hdst hst ha h
  refine⟨fun e=>(by rw[e]at hi;cases hi),fun j hj hr=>?_⟩
  have hji:j=i:=by
   match rest,hlen,hi,hj with
   | [x],_,hi,hj=>rw[List.mem_singleton.1 hi,List.mem_singleton.1 hj]
  subst hji
  have hopsAt:opsAt ops [j]=[o]:=by simp[opsAt,hio]
  rw[hopsAt]
  exact hme 0 rest a w hst ha h
 | succ m ih =>
  intro rest a w hi hlen hlit hdst hst ha h
  refine⟨fun e=>(by rw[e]at hi;cases hi),fun j hj hr=>?_⟩
  by_cases hji:j=i
  ·subst hji
   have hopsAt:opsAt ops [j]=[o]:=by simp[opsAt,hio]
   rw[hopsAt]
   exact hme (m+1) rest a w hst ha h
  ·have hwp:=h.2 j ((List.mem_erase_of_ne hji).2 hj) (fun k hk=>hr k (List.mem_of_mem_erase hk))
   cases hjo:ops[j]? with
   | none =>
    have hopsAt:opsAt ops [j]=[]:=by simp[opsAt,hjo]
    rw[hopsAt]at hwp ⊢
    obtain⟨hob,hwp⟩:=hwp
    refine⟨hob,ih (rest.erase j) a w ((List.mem_erase_of_ne (fun e=>hji e.symm)).2 hi) (by have:=List.length_erase_of_mem hj;omega) (fun k hk=>hlit k (List.mem_of_mem_erase hk)) (fun k hk=>hdst k (List.mem_of_mem_erase hk)) hst ha ?_⟩
    have:=hwp
    rw[List.erase_comm]at this
    exact this
   | some o' =>
    have hopsAt:opsAt ops [j]=[o']:=by simp[opsAt,hjo]
    rw[hopsAt]at hwp ⊢
    obtain⟨hne,hlk⟩:=hoth j o' hji hjo
    have hnl:d ∉ o'.looksAt ops:=fun hm=>by have:=hr i hi;rw[hlk hm]at this;cases this
    have hagree:∀t∈o'.looksAt ops,a.tmps[t]? = (a.put (some d) v).tmps[t]?:=by
     intro t ht
     simp only[Act.put,Array.getElem?_setIfInBounds]
     rw[if_neg (fun e=>hnl (by rw[e];exact ht))]
    have hwt:Region.wanted o' (yielded ops a.tmps)=Region.wanted o' (yielded ops (a.put (some d) v).tmps):=by
     unfold Region.wanted
     cases hg:o'.guard with
     | none=>rfl
     | some g =>
      obtain⟨j',c⟩:=g
      simp only[yielded]
      cases hj:(ops[j']?).bind (·.dst) with
      | none=>rfl
      | some t =>
       have:t∈o'.looksAt ops:=by
        unfold Oper.looksAt
        rw[hg]
        exact List.mem_append_right _ (by simp[hj])
       simp only[Option.bind_some,hagree t this]
    have hev:execOp a.eval o'=execOp (a.put (some d) v).eval o':=by
     refine execOp_congr o' (fun cs c e=>?_) fun x hx=>eval_of fun t e=>?_
     ·have:=hpl j o' hjo
      unfold plainB at this;rw[e]at this;cases this
     ·subst e
      exact hagree t (List.mem_append_left _ (List.mem_filterMap.2 ⟨.tmp t,by simpa using hx,rfl⟩))
    have hnext:∀(ds:List Deferred) (u:Value) (w':World),wpListIn F n P ops (nq fun _ b'' w''=>(litB ops mask j=true∨St w0 W HL w'')∧wpT F n P w0 W HL ops mask Q m ((rest.erase i).erase j) b'' w'') [] (({ (a.put (some d) v) with defers:=ds }:Act).put o'.dst u) w' →
      wpListIn F n P ops (nq fun _ b'' w''=>(litB ops mask j=true∨St w0 W HL w'')∧wpT F n P w0 W HL ops mask Q (m+1) (rest.erase j) b'' w'') [] (({ a with defers:=ds }:Act).put o'.dst u) w':=by
     intro ds u w' hh
     obtain⟨h1,h2⟩:=hh
     have hst':St w0 W HL w':=by
      rcases h1 with h1|h1
      ·rcases hlit j hj with h3|h3
       ·rw[hr i hi]at h3;cases h3
       ·rw[h3]at h1;cases h1
      ·exact h1
     refine⟨h1,ih (rest.erase j) _ w' ((List.mem_erase_of_ne (fun e=>hji e.symm)).2 hi) (by have:=List.length_erase_of_mem hj;omega) (fun k hk=>hlit k (List.mem_of_mem_erase hk)) (fun k hk=>hdst k (List.mem_of_mem_erase hk)) hst' (fun t ht u' hu'=>?_) ?_⟩
     ·cases hdj:o'.dst with
      | none=>exact ha t ht u' hu'
      | some e =>
       have hne2:e≠t:=fun hh=>hdst j hj e (by simp[dstAt,hjo,hdj]) (by rw[hh];exact ht)
       simp only[Act.put,Array.getElem?_setIfInBounds]
       rw[if_neg hne2]
       exact ha t ht u' hu'
     ·rw[List.erase_comm,put_comm _ _ _ _ _ hne]
      exact h2
    simp only[wpListIn]at hwp ⊢
    rw[hwt]
    by_cases hw:Region.wanted o' (yielded ops (a.put (some d) v).tmps)=true
    ·rw[if_pos hw]at hwp ⊢
     refine⟨fun f _=>hF.out.fn f,?_⟩
     have h2:=hwp.2
     rw[Oper.semAt_plain F _ _ (hnd j o' hjo),← hev]at h2
     rw[Oper.semAt_plain F _ _ (hnd j o' hjo)]
     exact uponIn_sim h2 (fun u w' hh=>hnext a.defers u w' hh) (fun x w' hh=>hnext (x::a.defers) undef w' hh)
    ·rw[if_neg hw]at hwp ⊢
     exact⟨fun f _=>hF.out.fn f,hnext a.defers undef w hwp.2⟩
instance {P:Program}(s f off b q r:Nat)(x:Operand)[hfa:Fa P s f off][hr:NAdd q off r]:PV P (.fieldAddr s x f) [.pointer (some ⟨b,q,none⟩)] (.pointer (some ⟨b,r,none⟩)) True:=⟨by
 rintro _ ρ ⟨dst,op',ty,pos,aft,gd⟩ rfl h w
 obtain⟨fs,fld,i,h1,h2,h3,h4,h5⟩:=hfa.h
 rw[← hr.h]
 simp[execOp,map1 h,Instr.fieldAt,run_underlying h1,h2,Instr.sureAddr,fieldPlace,sizeOf,typeInfo,h3,h4,h5,add_none]⟩
instance {P:Program}(x:Operand)(p:Addr):PV P (.nilCheck x) [.pointer (some p)] (.pointer (some p)) True:=⟨by
 rintro _ ρ ⟨dst,op',ty,pos,aft,gd⟩ rfl h w
 simp[execOp,map1 h,Instr.sureAddr]⟩
def lookOk(ops:Array Oper)(mask:List Bool)(rest:List Nat)(i:Nat):Bool:=rest.all fun j=>edgeB ops j i||!litB ops mask j
section
variable {F:Fence} {n:Nat} {P:Program} {N:Nat} {ds:List Deferred} {w0:World} {W:Nat→Prop} {σ:List (Nat×Value)} {H HL:List HE} {Q:Exit→Act→World→Prop} {ops:Array Oper} {m:Nat} {rest rest':List Nat} {mask:List Bool}
theorem look_anyE{i d:Nat}{o:Oper}{v:Value}[hF:Wide F][hV:RegV ops](hio:ops.toList[i]? = some o)(hd:o.dst=some d)(hin:i∈rest)(hok:unbl rest o.after=true)(hlo:lookOk ops mask rest i=true)(hlen:Nat.ble rest.length (m+1)=true)
  (hq:(wantd ops σ o=some true∧LQ P w0 W HL σ o v)∨(wantd ops σ o=some false∧v=undef)) (hdN:Nat.blt d N=true) (hs:Sub HL H) (he:rest.erase i=rest')
  (h:J N ds w0 W ((d,v)::σ) H (wpT F n P w0 W HL ops mask Q m rest')):J N ds w0 W σ H (wpT F n P w0 W HL ops mask Q (m+1) rest):=by
 intro a w ha hst
 subst he
 rw[Array.getElem?_toList]at hio
 have hpos:0<ops.size:=by have:=(Array.getElem?_eq_some_iff.1 hio).1;omega
 refine look_coreE (v:=v) (L:=look σ) hio hd (fun j o' hj=>(hV.at_ hj).1) (fun j o' hne hj=>((hV.at_ hio).2.2 d hd).2 j o' hne hj) (fun a' ha'=>?_) m rest a w hin (Nat.le_of_ble_eq_true hlen) (fun j hj=>by
   have h1:=List.all_eq_true.1 hlo j hj
   cases hb:edgeB ops j i with
   | true=>exact .inl rfl
   | false=>rw[hb]at h1;exact .inr (by simpa using h1)) (fun j hj t ht hm=>?_) (hst.sub hs) (fun t _ u hu=>ha.at_ t u hu) ?_
 ·rcases hq with⟨hw,hl⟩ | ⟨hw,hv⟩
  ·refine .inl ⟨wanted_at ha' hw,fun w' hw'=>hl _ (fun x hx u hu=>?_) w' hw'⟩
   cases x with
   | tmp t =>
    have:=ha' t (List.mem_append_left _ (List.mem_filterMap.2 ⟨.tmp t,hx,rfl⟩)) u hu
    simp[Act.eval,this]
   | const u=>simpa [ev,Act.eval] using hu
   | global g=>simpa [ev,Act.eval] using hu
   | func f=>simpa [ev,Act.eval] using hu
  ·exact .inr ⟨wanted_at ha' hw,hv⟩
 ·unfold dstAt at ht
  cases hjo:ops[j]? with
  | none=>rw[hjo]at ht;cases ht
  | some o' =>
   rw[hjo]at ht
   have ht':o'.dst=some t:=ht
   by_cases hji:j=i
   ·subst hji
    rw[hio]at hjo
    injection hjo with e
    subst e
    exact((hV.at_ hio).2.2 t ht').1 hm
   ·have h1:=((hV.at_ hjo).2.2 t ht').2 i o (fun e=>hji e.symm) hio
    have h2:=h1.2 hm
    unfold edgeB at h2
    rw[hio]at h2
    have h3:=List.all_eq_true.1 hok j hj
    simp only at h2
    rw[h2]at h3
    simp at h3
 ·exact h _ _ (ha.put d v (by simpa using hdN)) hst
theorem t_lookE(k:Nat){i d:Nat}{op:Op}{ty:TypeId}{pos:String}{aft:Array Edge}{gd:Option (Nat×Bool)}{vs:List Value}{v:Value}{c:Prop}[hF:Wide F][hV:RegV ops](hk:rest[k]? = some i)(hio:ops.toList[i]? = some ⟨some d,op,ty,pos,aft,gd⟩)(hw:wantd ops σ ⟨some d,op,ty,pos,aft,gd⟩=some true)(hv:vals σ op.operands.toList=some vs)[hp:LV P w0 W HL op vs v c](hdN:Nat.blt d N=true)(hlen:Nat.ble rest.length (m+1)=true)[he:EraX rest k rest'](hc:c)
  (hok:(unbl rest aft&&rest.erase i==rest.eraseIdx k&&lookOk ops mask rest i)=true) (hs:Sub HL H) (h:J N ds w0 W ((d,v)::σ) H (wpT F n P w0 W HL ops mask Q m rest')):J N ds w0 W σ H (wpT F n P w0 W HL ops mask Q (m+1) rest):=by
 simp only[Bool.and_eq_true,beq_iff_eq]at hok
 exact look_anyE hio rfl (mem_of_get hk) hok.1.1 hok.2 hlen (.inl ⟨hw,lq_of (vs:=vs) (c:=c) hv hc⟩) hdN hs (hok.1.2.trans he.h) h
theorem t_pickE(k i:Nat){d:Nat}{op:Op}{ty:TypeId}{pos:String}{aft:Array Edge}{gd:Option (Nat×Bool)}{vs:List Value}{v:Value}{c:Prop}[hF:Wide F](hio:ops.toList[i]? = some ⟨some d,op,ty,pos,aft,gd⟩)(hok:pickOk ops mask rest i d ⟨some d,op,ty,pos,aft,gd⟩=true)(hlen:Nat.ble rest.length (m+1)=true)
  (hw:wantd ops σ ⟨some d,op,ty,pos,aft,gd⟩=some true) (hv:vals σ op.operands.toList=some vs) [hp:PV P op vs v c] [he:EraX rest k rest'] (hc:c) (hdN:Nat.blt d N=true) (hs:Sub HL H) (hee:(rest.erase i==rest.eraseIdx k)=true)
  (h:J N ds w0 W ((d,v)::σ) H (wpT F n P w0 W HL ops mask Q m rest')):J N ds w0 W σ H (wpT F n P w0 W HL ops mask Q (m+1) rest):=by
 have e:rest.erase i=rest':=(by simpa using hee:rest.erase i=rest.eraseIdx k).trans he.h
 subst e
 exact t_pick i hio hok hlen hw hv hc hdN hs h
theorem c_dn{id:Nat}{l:List Oper}(HL:List HE)(r:List Nat)[hF:Wide F](hs:Sub HL H)
  (h:RegV l.toArray→J N ds w0 W σ H (wpT F n P w0 W HL l.toArray (List.replicate l.toArray.size false) Q r.length r))
  (hr:(hvIdx l.toArray (List.replicate l.toArray.size false)==r)=true:=by decide +kernel) (hmx:P.follows .mixedOrders=true:=by decide) (hok:maskOkX l.toArray (List.replicate l.toArray.size false)=true:=by decide +kernel) (hp:(pvIdx l.toArray (List.replicate l.toArray.size false)).isEmpty=true:=by decide +kernel) (hk:(Nat.ble l.toArray.size 300&&regOk l.toArray)=true:=by decide +kernel) :
  J N ds w0 W σ H ((Code.region id l.toArray true).wpIn F n P Q) :=
 c_drx HL _ r hs (by simpa using hr) hmx hok (by
  simp only[Bool.and_eq_true]at hk
  rw[List.isEmpty_iff.1 hp]
  exact x_nil (h ⟨hk.2,Nat.le_of_ble_eq_true hk.1⟩))
theorem t_toM(mask':List Bool)(h:J N ds w0 W σ H (wpT F n P w0 W HL ops mask' Q m rest)):J N ds w0 W σ H (wpT F n P w0 W HL ops (List.replicate ops.size false) Q m rest) :=
 fun a w ha hw=>wpT_strong (fun i _=>litB_none i) m rest a w (h a w ha hw)
end
end Go.Proofs.YthajpemlpmlefaaGreat
