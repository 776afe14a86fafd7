import Derived.Test.YthajpemlpmlefaaGreatP33
set_option maxHeartbeats 512000000
set_option maxRecDepth 4000
set_option linter.unusedVariables false
set_option linter.unusedSimpArgs false
namespace Go.Proofs.YthajpemlpmlefaaGreat
open Go.RowKit
attribute [local irreducible] OJ J HdJ Code.wpIn wpListIn Oper.wpIn bodyPost CallsIn Does
theorem split_any(g:Grd)(A:Option Addr)(c:Nat)(w:World)(hr:RoA w (blocks []) A g.p.length c 1 (ints .i64 g.p))(hg:GrdOk g)(hx : -4611686018427387904≤g.x∧g.x≤4611686018427387904)(hy : -4611686018427387904≤g.y∧g.y≤4611686018427387904)(ho:splitOk g):
  Does Tryz.prog 193 [.agg (grE g A c).toArray] [] w
   (fun v S'=>∃u,v=.tuple #[u,.int .i64 0]∧GrR (splitG g) u S'):=by
 obtain⟨W,H,hW,hH,hW1,hH1,hWH⟩:=nat_sides hg
 have hm4:=hg.len
 obtain⟨⟨⟨a1,a2⟩,⟨a3,a4⟩,a5,a6⟩,hl,hp,hs1,hs2⟩:=hg
 obtain⟨o1,o2,o3,o4⟩:=ho
 unfold splitG
 obtain⟨gw,gh,gx,gy,gs,p⟩:=g
 dsimp only at hr hx hy a1 a2 a3 a4 a5 a6 hl hp hm4 o1 o2 o3 o4 hW hH hWH ⊢
 dsimp only[grE]
 subst hW hH
 clear hs1 hs2
 obtain⟨bA,oA,rfl,hRA⟩:=hr.at_ hm4.1
 obtain⟨N,hN⟩:∃N:Nat,4*p.length=N:=⟨_,rfl⟩
 obtain⟨f,hf⟩:∃f:Nat→Int,(fun k=>p.getD (rowI (2*(W:Int)) k/2*(W:Int)+colI (2*(W:Int)) k/2).toNat 0/4)=f:=⟨_,rfl⟩
 have hlen:=fun i (hi:i≤N)=>prt_len f hi
 have hset:=fun i (hi:i<N)=>prt_set f hi
 rw[hN,hf]
 refine does_of Tryz.func193 rfl Tryz.ntmps193 rfl ⟨by simp,.nil⟩ (fun _=>?_)
 simp only[slots]
 refine z_tas
 all_goals try (exfalso;omega)
 rename_i b1 b2 _ _ _ _
 have iM4:∀w0 W H t u a b,LV Tryz.prog w0 W H (.binOp .mul t a b u) [.int .i64 4,.int .i64 (p.length:Int)] (.int .i64 (N:Int)) True:=fun _ _ _ _ _ _ _=>lvM inferInstance (by show (-9223372036854775808:Int)≤_∧_≤(9223372036854775807:Int);omega) (congrArg (Value.int .i64) (by omega))
 refine c_joinE2 (X:=Nat×Nat) (fun _=>True) (fun q=>[(1,.pointer (some ⟨b1,0,none⟩)),(2,.pointer (some ⟨b2,0,none⟩)),(4,.pointer (some ⟨q.1,0,none⟩))])
  (fun q=>[.blk b1 63 [.int .i64 W,.int .i64 H,.int .i64 gx,.int .i64 gy,.int .i64 gs,.slice (some ⟨bA,oA,none⟩) p.length c],.blk b2 63 grN,.blk q.1 63 [.int .i64 (2*(W:Int)),.int .i64 (2*(H:Int)),.int .i64 (gx-gs/4),.int .i64 (gy-gs/4),.int .i64 (gs/2),.slice (some ⟨q.2,0,none⟩) N N],.row (.slice (some ⟨q.2,0,none⟩) N N) 2 1 N (ints .i64 (List.replicate N 0))]) ?_ ?_
 ·refine c_drx [.blk b1 63 [.int .i64 W,.int .i64 H,.int .i64 gx,.int .i64 gy,.int .i64 gs,.slice (some ⟨bA,oA,none⟩) p.length c]] [true,true,true,true,true,true,true,true,true,true,true,true,true,true,true,true,true,true,true,true,true,true,true,true,true,false,false,false,false] [25,26,27,28] Sub.au rfl (by decide) (by decide +kernel) ?_
  refine z_gon
  all_goals
   first
   | (rename_i bp b4;exact c_round (b4,bp) trivial trivial ⟨rfl,rfl,rfl,trivial⟩ Sub.au)
   | (rename_i b4 bp;exact c_round (b4,bp) trivial trivial ⟨rfl,rfl,rfl,trivial⟩ Sub.au)
 ·rintro⟨b4,bp⟩ -
  dsimp only
  refine z_tas
  refine c_loop (X:=Nat) (fun i=>i≤N) (fun i=>[(1,.pointer (some ⟨b1,0,none⟩)),(2,.pointer (some ⟨b2,0,none⟩)),(4,.pointer (some ⟨b4,0,none⟩)),(59,.int .i64 N),(60,.int .i64 i)])
   (fun i=>[.blk b1 63 [.int .i64 W,.int .i64 H,.int .i64 gx,.int .i64 gy,.int .i64 gs,.slice (some ⟨bA,oA,none⟩) p.length c],.blk b2 63 grN,.blk b4 63 [.int .i64 (2*(W:Int)),.int .i64 (2*(H:Int)),.int .i64 (gx-gs/4),.int .i64 (gy-gs/4),.int .i64 (gs/2),.slice (some ⟨bp,0,none⟩) N N],.row (.slice (some ⟨bp,0,none⟩) N N) 2 1 N (ints .i64 (prt f N i))]) (fun i=>N-i) 0 (Nat.zero_le _) ⟨rfl,rfl,rfl,rfl,rfl,trivial⟩ (by rw[prt_zero];exact Sub.au) ?_
  intro i hi
  rcases Nat.lt_or_ge i N with h|h
  ·obtain⟨r2,hr2⟩:∃r2,i/(2*W)/2=r2:=⟨_,rfl⟩
   obtain⟨c2,hc2⟩:∃c2,i%(2*W)/2=c2:=⟨_,rfl⟩
   obtain⟨e1,e2,e3,e4⟩:=col_at (W:=2*W) (by omega) i
   have hrow:=row_lt (W:=2*W) (H:=2*H) (i:=i) (by rw[← hN,hWH]at h;rw[Nat.mul_assoc,Nat.mul_comm W (2*H),Nat.mul_assoc,Nat.mul_comm H W];omega)
   have hc:r2*W+c2<p.length:=by rw[hWH];exact cell_lt (by omega) (by omega)
   have hfi:f i=p.getD (r2*W+c2) 0/4:=by
    rw[← hf]
    dsimp only
    rw[show 2*(W:Int)=((2*W:Nat):Int) by omega,e1,e2]
    have e5:((i/(2*W):Nat):Int)/2*(W:Int)+((i%(2*W):Nat):Int)/2=((r2*W+c2:Nat):Int):=by rw[Int.natCast_add,Int.natCast_mul,← hr2,← hc2];rfl
    rw[e5,Int.toNat_natCast]
   have hs:=hset i h
   have hle:=hlen i hi
   rw[hfi]at hs
   have pc:=hp _ hc
   have iR:∀w0 W' H' t u a b,LV Tryz.prog w0 W' H' (.binOp .rem t a b u) [.int .i64 (i:Int),.int .i64 (2*(W:Int))] (.int .i64 ((i%(2*W):Nat):Int)) True:=fun _ _ _ _ _ _ _=>lvM inferInstance (by omega) (congrArg (Value.int .i64) (by rw[show 2*(W:Int)=((2*W:Nat):Int) by omega];rfl))
   have iRm:∀w0 W' H' t u a b,MS Tryz.prog w0 W' H' (.binOp .rem t a b u) [.int .i64 (i:Int),.int .i64 (2*(W:Int))] (.int .i64 ((i%(2*W):Nat):Int)) True:=fun _ _ _ _ _ _ _=>msM inferInstance (by omega) (congrArg (Value.int .i64) (by rw[show 2*(W:Int)=((2*W:Nat):Int) by omega];rfl))
   have iQ:∀w0 W' H' t u a b,LV Tryz.prog w0 W' H' (.binOp .quo t a b u) [.int .i64 (i:Int),.int .i64 (2*(W:Int))] (.int .i64 ((i/(2*W):Nat):Int)) True:=fun _ _ _ _ _ _ _=>lvM inferInstance (by refine⟨by omega,by omega,by omega,by omega⟩) (congrArg (Value.int .i64) (by rw[show 2*(W:Int)=((2*W:Nat):Int) by omega];rfl))
   have iQm:∀w0 W' H' t u a b,MS Tryz.prog w0 W' H' (.binOp .quo t a b u) [.int .i64 (i:Int),.int .i64 (2*(W:Int))] (.int .i64 ((i/(2*W):Nat):Int)) True:=fun _ _ _ _ _ _ _=>msM inferInstance (by refine⟨by omega,by omega,by omega,by omega⟩) (congrArg (Value.int .i64) (by rw[show 2*(W:Int)=((2*W:Nat):Int) by omega];rfl))
   have iR2:∀w0 W' H' t u a b,LV Tryz.prog w0 W' H' (.binOp .quo t a b u) [.int .i64 ((i%(2*W):Nat):Int),.int .i64 2] (.int .i64 (c2:Int)) True:=fun _ _ _ _ _ _ _=>lvM inferInstance (by refine⟨by omega,by omega,by omega,by omega⟩) (congrArg (Value.int .i64) (by omega))
   have iR2m:∀w0 W' H' t u a b,MS Tryz.prog w0 W' H' (.binOp .quo t a b u) [.int .i64 ((i%(2*W):Nat):Int),.int .i64 2] (.int .i64 (c2:Int)) True:=fun _ _ _ _ _ _ _=>msM inferInstance (by refine⟨by omega,by omega,by omega,by omega⟩) (congrArg (Value.int .i64) (by omega))
   have hq1:i/(2*W)<128:=by omega
   have iQ2:∀w0 W' H' t u a b,LV Tryz.prog w0 W' H' (.binOp .quo t a b u) [.int .i64 ((i/(2*W):Nat):Int),.int .i64 2] (.int .i64 (r2:Int)) True:=fun _ _ _ _ _ _ _=>lvM inferInstance (by generalize i/(2*W)=z at *;refine⟨by omega,by omega,by omega,by omega⟩) (congrArg (Value.int .i64) (by generalize i/(2*W)=z at *;omega))
   have iQ2m:∀w0 W' H' t u a b,MS Tryz.prog w0 W' H' (.binOp .quo t a b u) [.int .i64 ((i/(2*W):Nat):Int),.int .i64 2] (.int .i64 (r2:Int)) True:=fun _ _ _ _ _ _ _=>msM inferInstance (by generalize i/(2*W)=z at *;refine⟨by omega,by omega,by omega,by omega⟩) (congrArg (Value.int .i64) (by generalize i/(2*W)=z at *;omega))
   have hrw:r2*W≤4096:=by omega
   have iM:∀w0 W' H' t u a b,LV Tryz.prog w0 W' H' (.binOp .mul t a b u) [.int .i64 (r2:Int),.int .i64 (W:Int)] (.int .i64 ((r2*W:Nat):Int)) True:=fun _ _ _ _ _ _ _=>lvM inferInstance (by show (-9223372036854775808:Int)≤_∧_≤(9223372036854775807:Int);rw[← Int.natCast_mul];omega) (by rw[Int.natCast_mul])
   have iA:∀w0 W' H' t u a b,LV Tryz.prog w0 W' H' (.binOp .add t a b u) [.int .i64 ((r2*W:Nat):Int),.int .i64 (c2:Int)] (.int .i64 ((r2*W+c2:Nat):Int)) True:=fun _ _ _ _ _ _ _=>lvM inferInstance (by show (-9223372036854775808:Int)≤_∧_≤(9223372036854775807:Int);omega) (by rw[Int.natCast_add])
   clear hset hlen hf hfi e1 e2 e3 e4 hrow
   generalize i/(2*W)=d1 at *
   generalize i%(2*W)=d2 at *
   generalize r2*W+c2=k at *
   generalize r2*W=rw2 at *
   generalize hpr:prt f N i=R at *
   refine z_tas
   refine c_dp [] 14 (0::1::2::3::4::5::6::7::8::9::10::11::12::13::[]) ?_;intro _
   refine z_gvx
   all_goals
    refine c_round (i+1) h (by show N-(i+1)<N-i;omega) ⟨rfl,rfl,rfl,rfl,by simp[look],trivial⟩ ?_
    rw[← hs]
    exact Sub.au
  ·obtain rfl:i=N:=by omega
   rw[prt_all]
   refine z_tas
   refine j_outK (S':=[.row (.slice (some ⟨bp,0,none⟩) i i) 2 1 i (ints .i64 (tab f i))]) Sub.au ?_
   refine z_rk
   refine⟨_,rfl,some ⟨bp,0,none⟩,i,?_,?_⟩
   ·dsimp only[grE]
    rw[tab_len]
   ·dsimp only
    rw[tab_len]
theorem joinTo_in{g:Grd}(hp:Pos30 g.p):∀i,i≤g.p.length→∀j,0≤(joinTo g i).getD j 0∧(joinTo g i).getD j 0≤1073741824*(i:Int)
 | 0,_,j=>by
  rw[joinTo]
  rcases Nat.lt_or_ge j (g.p.length/4) with h|h
  ·rw[List.getD_eq_getElem?_getD,List.getElem?_replicate,if_pos h];simp
  ·rw[List.getD_eq_getElem?_getD,List.getElem?_replicate,if_neg (by omega)];simp
 | i+1,h,j=>by
  have ih:=joinTo_in hp i (by omega)
  have hi:=hp i (by omega)
  rw[joinTo]
  generalize (rowI g.w i/2*(g.w/2)+colI g.w i/2).toNat=k
  have h1:=ih j
  have h2:=ih k
  rcases Nat.lt_or_ge k (joinTo g i).length with hk|hk
  ·rw[set_get _ _ _ hk]
   split
   ·omega
   ·omega
  ·rw[List.set_eq_of_length_le hk]
   omega
theorem join_anyG(g:Grd)(A:Option Addr)(c:Nat)(w:World)(hr:RoA w (blocks []) A g.p.length c 1 (ints .i64 g.p))(hg:GrdOk g)(hx : -4611686018427387904≤g.x∧g.x≤4611686018427387904)(hy : -4611686018427387904≤g.y∧g.y≤4611686018427387904)(ho:joinOk g):
  Does Tryz.prog 194 [.agg (grE g A c).toArray] [] w
   (fun v S'=>∃u,v=.tuple #[u,.int .i64 0]∧GrR (joinG g) u S'):=by
 obtain⟨W,H,hW,hH,hW1,hH1,hWH⟩:=nat_sides hg
 have hm4:=hg.len
 obtain⟨⟨⟨a1,a2⟩,⟨a3,a4⟩,a5,a6⟩,hl,hp,hs1,hs2⟩:=hg
 obtain⟨o1,o2,o3⟩:=ho
 obtain⟨W2,rfl⟩:∃W2,W=2*W2:=⟨W/2,by omega⟩
 obtain⟨H2,rfl⟩:∃H2,H=2*H2:=⟨H/2,by omega⟩
 have hix:=fun i (hi:i<g.p.length)=>join_ix (g:=g) (W:=W2) (H:=H2) hW hWH (by omega) hi
 have hji:=joinTo_in hp
 have hjl:=joinTo_len g
 have hstep:∀i,joinTo g (i+1)=(joinTo g i).set (rowI g.w i/2*(g.w/2)+colI g.w i/2).toNat ((joinTo g i).getD (rowI g.w i/2*(g.w/2)+colI g.w i/2).toNat 0+g.p.getD i 0):=fun _=>rfl
 have hj0:joinTo g 0=List.replicate (g.p.length/4) 0:=rfl
 unfold joinG
 generalize joinTo g=J at *
 obtain⟨gw,gh,gx,gy,gs,p⟩:=g
 dsimp only at hr hx hy a1 a2 a3 a4 a5 a6 hl hp hm4 o1 o2 o3 hW hH hWH hix hji hjl hstep hj0 ⊢
 dsimp only[grE]
 clear hs1 hs2
 obtain⟨bA,oA,rfl,hRA⟩:=hr.at_ hm4.1
 obtain⟨N,hN⟩:∃N:Nat,p.length/4=N:=⟨_,rfl⟩
 rw[hN]at hj0 hjl
 refine does_of Tryz.func194 rfl Tryz.ntmps194 rfl ⟨by simp,.nil⟩ (fun _=>?_)
 simp only[slots]
 refine z_tas
 all_goals try (exfalso;omega)
 rename_i b1 b2 _ _ _
 have iM4:∀w0 W H t u a b,LV Tryz.prog w0 W H (.binOp .quo t a b u) [.int .i64 (p.length:Int),.int .i64 4] (.int .i64 (N:Int)) True:=fun _ _ _ _ _ _ _=>lvM inferInstance (by refine⟨by omega,by omega,by omega,by omega⟩) (congrArg (Value.int .i64) (by omega))
 refine c_joinE2 (X:=Nat×Nat) (fun _=>True) (fun q=>[(1,.pointer (some ⟨b1,0,none⟩)),(2,.pointer (some ⟨b2,0,none⟩)),(4,.pointer (some ⟨q.1,0,none⟩))])
  (fun q=>[.blk b1 63 [.int .i64 gw,.int .i64 gh,.int .i64 gx,.int .i64 gy,.int .i64 gs,.slice (some ⟨bA,oA,none⟩) p.length c],.blk b2 63 grN,.blk q.1 63 [.int .i64 (gw/2),.int .i64 (gh/2),.int .i64 (gx+gs/2),.int .i64 (gy+gs/2),.int .i64 (2*gs),.slice (some ⟨q.2,0,none⟩) N N],.row (.slice (some ⟨q.2,0,none⟩) N N) 2 1 N (ints .i64 (List.replicate N 0))]) ?_ ?_
 ·refine c_drx [.blk b1 63 [.int .i64 gw,.int .i64 gh,.int .i64 gx,.int .i64 gy,.int .i64 gs,.slice (some ⟨bA,oA,none⟩) p.length c]] [true,true,true,true,true,true,true,true,true,true,true,true,true,true,true,true,true,true,true,true,true,true,true,true,true,false,false,false,false] [25,26,27,28] Sub.au rfl (by decide) (by decide +kernel) ?_
  refine z_gon
  all_goals
   first
   | (rename_i bp b4;exact c_round (b4,bp) trivial trivial ⟨rfl,rfl,rfl,trivial⟩ Sub.au)
   | (rename_i b4 bp;exact c_round (b4,bp) trivial trivial ⟨rfl,rfl,rfl,trivial⟩ Sub.au)
 ·rintro⟨b4,bp⟩ -
  dsimp only
  refine z_tas
  refine c_loop (X:=Nat) (fun i=>i≤p.length) (fun i=>[(1,.pointer (some ⟨b1,0,none⟩)),(2,.pointer (some ⟨b2,0,none⟩)),(4,.pointer (some ⟨b4,0,none⟩)),(52,.slice (some ⟨bA,oA,none⟩) p.length c),(53,.int .i64 p.length),(54,.int .i64 i)])
   (fun i=>[.blk b1 63 [.int .i64 gw,.int .i64 gh,.int .i64 gx,.int .i64 gy,.int .i64 gs,.slice (some ⟨bA,oA,none⟩) p.length c],.blk b2 63 grN,.blk b4 63 [.int .i64 (gw/2),.int .i64 (gh/2),.int .i64 (gx+gs/2),.int .i64 (gy+gs/2),.int .i64 (2*gs),.slice (some ⟨bp,0,none⟩) N N],.row (.slice (some ⟨bp,0,none⟩) N N) 2 1 N (ints .i64 (J i))]) (fun i=>p.length-i) 0 (Nat.zero_le _) ⟨rfl,rfl,rfl,rfl,rfl,rfl,trivial⟩ (by rw[hj0];exact Sub.au) ?_
  intro i hi
  rcases Nat.lt_or_ge i p.length with h|h
  ·obtain⟨x1,x2⟩:=hix i h
   have hst:=hstep i
   rw[x1]at hst
   have hj:=hji i (by omega)
   have hjL:=hjl i
   obtain⟨r2,hr2⟩:∃r2,i/(2*W2)/2=r2:=⟨_,rfl⟩
   obtain⟨c2,hc2⟩:∃c2,i%(2*W2)/2=c2:=⟨_,rfl⟩
   have hjk:=hj (i/(2*W2)/2*W2+i%(2*W2)/2)
   rw[hr2,hc2]at hst x2 hjk
   have hdd:=Nat.div_le_self i (2*W2)
   have hmm:=Nat.mod_le i (2*W2)
   have hrw2:r2*W2≤r2*W2+c2:=Nat.le_add_right _ _
   have hpi:=hp i h
   have iR:∀w0 W' H' t u a b,LV Tryz.prog w0 W' H' (.binOp .rem t a b u) [.int .i64 (i:Int),.int .i64 gw] (.int .i64 ((i%(2*W2):Nat):Int)) True:=fun _ _ _ _ _ _ _=>lvM inferInstance (by omega) (congrArg (Value.int .i64) (by rw[hW];rfl))
   have iQ:∀w0 W' H' t u a b,LV Tryz.prog w0 W' H' (.binOp .quo t a b u) [.int .i64 (i:Int),.int .i64 gw] (.int .i64 ((i/(2*W2):Nat):Int)) True:=fun _ _ _ _ _ _ _=>lvM inferInstance (by refine⟨by omega,by omega,by omega,by omega⟩) (congrArg (Value.int .i64) (by rw[hW];rfl))
   have iR2:∀w0 W' H' t u a b,LV Tryz.prog w0 W' H' (.binOp .quo t a b u) [.int .i64 ((i%(2*W2):Nat):Int),.int .i64 2] (.int .i64 (c2:Int)) True:=fun _ _ _ _ _ _ _=>lvM inferInstance (by generalize i%(2*W2)=z at *;refine⟨by omega,by omega,by omega,by omega⟩) (congrArg (Value.int .i64) (by generalize i%(2*W2)=z at *;omega))
   have iQ2:∀w0 W' H' t u a b,LV Tryz.prog w0 W' H' (.binOp .quo t a b u) [.int .i64 ((i/(2*W2):Nat):Int),.int .i64 2] (.int .i64 (r2:Int)) True:=fun _ _ _ _ _ _ _=>lvM inferInstance (by generalize i/(2*W2)=z at *;refine⟨by omega,by omega,by omega,by omega⟩) (congrArg (Value.int .i64) (by generalize i/(2*W2)=z at *;omega))
   have iM:∀w0 W' H' t u a b,LV Tryz.prog w0 W' H' (.binOp .mul t a b u) [.int .i64 (r2:Int),.int .i64 (gw/2)] (.int .i64 ((r2*W2:Nat):Int)) True:=fun _ _ _ _ _ _ _=>by
    rw[show gw/2=(W2:Int) by omega]
    exact lvM inferInstance (by show (-9223372036854775808:Int)≤_∧_≤(9223372036854775807:Int);rw[← Int.natCast_mul];omega) (by rw[Int.natCast_mul])
   have iA:∀w0 W' H' t u a b,LV Tryz.prog w0 W' H' (.binOp .add t a b u) [.int .i64 ((r2*W2:Nat):Int),.int .i64 (c2:Int)] (.int .i64 ((r2*W2+c2:Nat):Int)) True:=fun _ _ _ _ _ _ _=>lvM inferInstance (by show (-9223372036854775808:Int)≤_∧_≤(9223372036854775807:Int);omega) (by rw[Int.natCast_add])
   clear hix hji hjl hstep hj x1
   generalize i/(2*W2)=d1 at *
   generalize i%(2*W2)=d2 at *
   generalize r2*W2+c2=k at *
   generalize r2*W2=rw2 at *
   generalize hpr:J i=R at *
   refine z_tas
   refine c_dp [] 20 (0::1::2::3::4::5::6::7::8::9::10::11::12::13::14::15::16::17::18::19::[]) ?_;intro _
   refine z_gvx
   all_goals
    refine c_round (i+1) h (by show p.length-(i+1)<p.length-i;omega) ⟨rfl,rfl,rfl,rfl,rfl,by simp[look],trivial⟩ ?_
    rw[hst]
    exact Sub.au
  ·obtain rfl:i=p.length:=by omega
   have hjL:=hjl p.length
   refine z_tas
   refine j_outK (S':=[.row (.slice (some ⟨bp,0,none⟩) N N) 2 1 N (ints .i64 (J p.length))]) Sub.au ?_
   refine z_rk
   refine⟨_,rfl,some ⟨bp,0,none⟩,N,?_,?_⟩
   ·dsimp only[grE]
    rw[hjL]
   ·dsimp only
    rw[hjL]
theorem prt_none{f:Nat→Int}{N k:Nat}(h:k<N)(h0:f k=0):prt f N (k+1)=prt f N k:=by
 unfold prt
 rw[tab,h0,List.append_assoc,show N-k=(N-(k+1))+1 by omega,List.replicate_succ]
 rfl
theorem cut_anyG(g:Grd)(A:Option Addr)(c:Nat)(X Y cw ch:Int)(w:World)(hr:RoA w (blocks []) A g.p.length c 1 (ints .i64 g.p))(hg:GrdOk g)(hx : -4611686018427387904≤g.x∧g.x≤4611686018427387904)(hy : -4611686018427387904≤g.y∧g.y≤4611686018427387904)(hX : -64≤X∧X≤64)(hY : -64≤Y∧Y≤64)(hcw:1≤cw∧cw≤64)(hch:1≤ch∧ch≤64):
  Does Tryz.prog 195 [.agg (grE g A c).toArray,.int .i64 X,.int .i64 Y,.int .i64 cw,.int .i64 ch] [] w
   (fun v S'=>∃u,v=.tuple #[u,.int .i64 0]∧GrR (cutG g X Y cw ch) u S'):=by
 obtain⟨W,H,hW,hH,hW1,hH1,hWH⟩:=nat_sides hg
 have hm4:=hg.len
 obtain⟨⟨⟨a1,a2⟩,⟨a3,a4⟩,a5,a6⟩,hl,hp,hs1,hs2⟩:=hg
 obtain⟨CW,rfl⟩:∃CW:Nat,cw=CW:=⟨cw.toNat,by omega⟩
 obtain⟨CH,rfl⟩:∃CH:Nat,ch=CH:=⟨ch.toNat,by omega⟩
 have hCC:CW*CH≤4096:=Nat.mul_le_mul (show CW≤64 by omega) (show CH≤64 by omega)
 obtain⟨N,hN⟩:∃N:Nat,CW*CH=N:=⟨_,rfl⟩
 have hNp:0<N:=by rw[← hN];exact Nat.mul_pos (by omega) (by omega)
 unfold cutG
 rw[show ((CW:Int)*(CH:Int)).toNat=N by rw[← Int.natCast_mul,hN,Int.toNat_natCast]]
 obtain⟨gw,gh,gx,gy,gs,p⟩:=g
 dsimp only at hr hx hy a1 a2 a3 a4 a5 a6 hl hp hm4 hW hH hWH ⊢
 dsimp only[grE]
 subst hW hH
 clear hs1 hs2
 obtain⟨bA,oA,rfl,hRA⟩:=hr.at_ hm4.1
 obtain⟨f,hf⟩:∃f:Nat→Int,(fun k=>if 0≤X+colI (CW:Int) k∧0≤Y+rowI (CW:Int) k∧X+colI (CW:Int) k<(W:Int)∧Y+rowI (CW:Int) k<(H:Int)then p.getD ((Y+rowI (CW:Int) k)*(W:Int)+(X+colI (CW:Int) k)).toNat 0 else 0)=f:=⟨_,rfl⟩
 have hlen:=fun i (hi:i≤N)=>prt_len f hi
 have hset:=fun i (hi:i<N)=>prt_set f hi
 have hnon:=fun i (hi:i<N)=>prt_none (f:=f) hi
 rw[hf]
 have mX:=mulB 64 4096 (a:=X) (b:=gs) (by omega) (by omega)
 have mY:=mulB 64 4096 (a:=Y) (b:=gs) (by omega) (by omega)
 refine does_of Tryz.func195 rfl Tryz.ntmps195 rfl ⟨by simp,.nil⟩ (fun _=>?_)
 simp only[slots]
 have iM4:∀w0 W H t u a b,LV Tryz.prog w0 W H (.binOp .mul t a b u) [.int .i64 (CW:Int),.int .i64 (CH:Int)] (.int .i64 (N:Int)) True:=fun _ _ _ _ _ _ _=>lvM inferInstance (by show (-9223372036854775808:Int)≤_∧_≤(9223372036854775807:Int);rw[← Int.natCast_mul,hN];omega) (congrArg (Value.int .i64) (by rw[← Int.natCast_mul,hN]))
 refine z_tas
 all_goals try (exfalso;omega)
 rename_i b5 b10 _ _ _ _ _ _ _ _
 refine c_joinE2 (X:=Nat×Nat) (fun _=>True) (fun q=>[(1,.int .i64 X),(2,.int .i64 Y),(3,.int .i64 CW),(4,.int .i64 CH),(5,.pointer (some ⟨b5,0,none⟩)),(10,.pointer (some ⟨b10,0,none⟩)),(12,.pointer (some ⟨q.1,0,none⟩))])
  (fun q=>[.blk b5 63 [.int .i64 W,.int .i64 H,.int .i64 gx,.int .i64 gy,.int .i64 gs,.slice (some ⟨bA,oA,none⟩) p.length c],.blk b10 63 grN,.blk q.1 63 [.int .i64 CW,.int .i64 CH,.int .i64 (gx+X*gs),.int .i64 (gy+Y*gs),.int .i64 gs,.slice (some ⟨q.2,0,none⟩) N N],.row (.slice (some ⟨q.2,0,none⟩) N N) 2 1 N (ints .i64 (List.replicate N 0))]) ?_ ?_
 ·refine c_drx [.blk b5 63 [.int .i64 W,.int .i64 H,.int .i64 gx,.int .i64 gy,.int .i64 gs,.slice (some ⟨bA,oA,none⟩) p.length c]] [true,true,true,true,true,true,true,true,true,true,true,true,true,true,true,true,true,true,true,true,true,false,false,false,false] [21,22,23,24] Sub.au rfl (by decide) (by decide +kernel) ?_
  refine z_gon
  all_goals
   first
   | (rename_i bp b4;exact c_round (b4,bp) trivial trivial ⟨rfl,rfl,rfl,rfl,rfl,rfl,rfl,trivial⟩ Sub.au)
   | (rename_i b4 bp;exact c_round (b4,bp) trivial trivial ⟨rfl,rfl,rfl,rfl,rfl,rfl,rfl,trivial⟩ Sub.au)
 ·rintro⟨b12,bp⟩ -
  dsimp only
  refine z_tas
  refine c_loop (X:=Nat) (fun y=>y≤CH) (fun y=>[(1,.int .i64 X),(2,.int .i64 Y),(3,.int .i64 CW),(5,.pointer (some ⟨b5,0,none⟩)),(10,.pointer (some ⟨b10,0,none⟩)),(12,.pointer (some ⟨b12,0,none⟩)),(71,.int .i64 CH),(72,.int .i64 y)])
   (fun y=>[.blk b5 63 [.int .i64 W,.int .i64 H,.int .i64 gx,.int .i64 gy,.int .i64 gs,.slice (some ⟨bA,oA,none⟩) p.length c],.blk b10 63 grN,.blk b12 63 [.int .i64 CW,.int .i64 CH,.int .i64 (gx+X*gs),.int .i64 (gy+Y*gs),.int .i64 gs,.slice (some ⟨bp,0,none⟩) N N],.row (.slice (some ⟨bp,0,none⟩) N N) 2 1 N (ints .i64 (prt f N (y*CW)))]) (fun y=>CH-y) 0 (Nat.zero_le _) ⟨rfl,rfl,rfl,rfl,rfl,rfl,rfl,rfl,trivial⟩ (by rw[Nat.zero_mul,prt_zero];exact Sub.au) ?_
  intro y hy2
  rcases Nat.lt_or_ge y CH with h|h
  ·have hyW:y*CW+CW≤N:=by have:=Nat.mul_le_mul_right CW (show y+1≤CH from h);rw[Nat.add_mul,Nat.one_mul]at this;rw[← hN,Nat.mul_comm CW CH];exact this
   refine z_tas
   refine c_loop (X:=Nat) (fun x=>x≤CW) (fun x=>[(1,.int .i64 X),(2,.int .i64 Y),(3,.int .i64 CW),(5,.pointer (some ⟨b5,0,none⟩)),(10,.pointer (some ⟨b10,0,none⟩)),(12,.pointer (some ⟨b12,0,none⟩)),(13,.int .i64 y),(71,.int .i64 CH),(72,.int .i64 y),(75,.int .i64 CW),(76,.int .i64 x)])
    (fun x=>[.blk b5 63 [.int .i64 W,.int .i64 H,.int .i64 gx,.int .i64 gy,.int .i64 gs,.slice (some ⟨bA,oA,none⟩) p.length c],.blk b10 63 grN,.blk b12 63 [.int .i64 CW,.int .i64 CH,.int .i64 (gx+X*gs),.int .i64 (gy+Y*gs),.int .i64 gs,.slice (some ⟨bp,0,none⟩) N N],.row (.slice (some ⟨bp,0,none⟩) N N) 2 1 N (ints .i64 (prt f N (y*CW+x)))]) (fun x=>CW-x) 0 (Nat.zero_le _) ⟨rfl,rfl,rfl,rfl,rfl,rfl,rfl,rfl,rfl,rfl,rfl,trivial⟩ Sub.au ?_
   intro x hx2
   rcases Nat.lt_or_ge x CW with h2|h2
   ·obtain⟨c1,c2⟩:=at_col (r:=y) h2
    have hk:y*CW+x<N:=by omega
    have hF:f (y*CW+x)=if 0≤X+(x:Int)∧0≤Y+(y:Int)∧X+(x:Int)<(W:Int)∧Y+(y:Int)<(H:Int)then p.getD ((Y+(y:Int))*(W:Int)+(X+(x:Int))).toNat 0 else 0:=by
     rw[← hf]
     dsimp only
     rw[c1,c2]
    have hs:=hset _ hk
    have hn:=hnon _ hk
    have hle:=hlen _ (Nat.le_of_lt hk)
    have iM:∀w0 W' H' t u a b,LV Tryz.prog w0 W' H' (.binOp .mul t a b u) [.int .i64 (y:Int),.int .i64 (CW:Int)] (.int .i64 ((y*CW:Nat):Int)) True:=fun _ _ _ _ _ _ _=>lvM inferInstance (by show (-9223372036854775808:Int)≤_∧_≤(9223372036854775807:Int);rw[← Int.natCast_mul];omega) (by rw[Int.natCast_mul])
    have iA:∀w0 W' H' t u a b,LV Tryz.prog w0 W' H' (.binOp .add t a b u) [.int .i64 ((y*CW:Nat):Int),.int .i64 (x:Int)] (.int .i64 ((y*CW+x:Nat):Int)) True:=fun _ _ _ _ _ _ _=>lvM inferInstance (by show (-9223372036854775808:Int)≤_∧_≤(9223372036854775807:Int);omega) (by rw[Int.natCast_add])
    by_cases hin:0≤X+(x:Int)∧0≤Y+(y:Int)∧X+(x:Int)<(W:Int)∧Y+(y:Int)<(H:Int)
    ·rw[if_pos hin]at hF
     obtain⟨u1,hu1⟩:∃u1:Nat,X+(x:Int)=u1:=⟨(X+(x:Int)).toNat,by omega⟩
     obtain⟨u2,hu2⟩:∃u2:Nat,Y+(y:Int)=u2:=⟨(Y+(y:Int)).toNat,by omega⟩
     have hq:u2*W+u1<p.length:=by rw[hWH];exact cell_lt (by omega) (by omega)
     rw[hu1,hu2,show (u2:Int)*(W:Int)+(u1:Int)=((u2*W+u1:Nat):Int) by rw[Int.natCast_add,Int.natCast_mul],Int.toNat_natCast]at hF
     rw[hF]at hs
     have hq2:u2*W≤u2*W+u1:=Nat.le_add_right _ _
     have iX:∀w0 W' H' t u a b,MS Tryz.prog w0 W' H' (.binOp .add t a b u) [.int .i64 X,.int .i64 (x:Int)] (.int .i64 (u1:Int)) True:=fun _ _ _ _ _ _ _=>msM inferInstance (by show (-9223372036854775808:Int)≤_∧_≤(9223372036854775807:Int);omega) (congrArg (Value.int .i64) hu1)
     have iY:∀w0 W' H' t u a b,MS Tryz.prog w0 W' H' (.binOp .add t a b u) [.int .i64 Y,.int .i64 (y:Int)] (.int .i64 (u2:Int)) True:=fun _ _ _ _ _ _ _=>msM inferInstance (by show (-9223372036854775808:Int)≤_∧_≤(9223372036854775807:Int);omega) (congrArg (Value.int .i64) hu2)
     have iM2:∀w0 W' H' t u a b,LV Tryz.prog w0 W' H' (.binOp .mul t a b u) [.int .i64 (u2:Int),.int .i64 (W:Int)] (.int .i64 ((u2*W:Nat):Int)) True:=fun _ _ _ _ _ _ _=>lvM inferInstance (by show (-9223372036854775808:Int)≤_∧_≤(9223372036854775807:Int);rw[← Int.natCast_mul];omega) (by rw[Int.natCast_mul])
     have iA2:∀w0 W' H' t u a b,LV Tryz.prog w0 W' H' (.binOp .add t a b u) [.int .i64 ((u2*W:Nat):Int),.int .i64 (u1:Int)] (.int .i64 ((u2*W+u1:Nat):Int)) True:=fun _ _ _ _ _ _ _=>lvM inferInstance (by show (-9223372036854775808:Int)≤_∧_≤(9223372036854775807:Int);omega) (by rw[Int.natCast_add])
     clear hset hlen hnon hf hF hn c1 c2
     generalize u2*W+u1=k2 at *
     generalize u2*W=u2w at *
     generalize hkk:y*CW+x=k at *
     generalize hyy:y*CW=yw at *
     generalize hpr:prt f N k=R at *
     refine z_tas
     all_goals try (exfalso;omega)
     refine c_dp [] 17 (0::1::2::3::4::5::6::7::8::9::10::11::12::13::14::15::16::[]) ?_;intro _
     refine z_gvx
     all_goals
      refine c_round (x+1) h2 (by show CW-(x+1)<CW-x;omega) ⟨rfl,rfl,rfl,rfl,rfl,rfl,rfl,rfl,rfl,rfl,by simp[look],trivial⟩ ?_
      rw[show yw+(x+1)=k+1 by omega,← hs]
      exact Sub.au
    ·rw[if_neg hin]at hF
     have hn2:=hn hF
     clear hset hlen hnon hf hF hs hn c1 c2
     refine z_tas
     all_goals
      first
      | (exfalso;omega)
      | (refine c_round (x + 1) h2 (by show CW - (x + 1) < CW - x; omega) ⟨rfl, rfl, rfl, rfl, rfl, rfl, rfl, rfl, rfl, rfl, by simp [look], trivial⟩ ?_
         rw [show y * CW + (x + 1) = y * CW + x + 1 by omega, hn2]
         exact Sub.au)
   ·obtain rfl:x=CW:=by omega
    refine z_tas
    refine c_round (y+1) h (by show CH-(y+1)<CH-y;omega) ⟨rfl,rfl,rfl,rfl,rfl,rfl,rfl,by simp[look],trivial⟩ ?_
    rw[show (y+1)*x=y*x+x by rw[Nat.add_mul,Nat.one_mul]]
    exact Sub.au
  ·obtain rfl:y=CH:=by omega
   rw[show y*CW=N by rw[← hN,Nat.mul_comm],prt_all]
   refine z_tas
   refine j_outK (S':=[.row (.slice (some ⟨bp,0,none⟩) N N) 2 1 N (ints .i64 (tab f N))]) Sub.au ?_
   refine z_rk
   refine⟨_,rfl,some ⟨bp,0,none⟩,N,?_,?_⟩
   ·dsimp only[grE]
    rw[tab_len]
   ·dsimp only
    rw[tab_len]
end Go.Proofs.YthajpemlpmlefaaGreat
