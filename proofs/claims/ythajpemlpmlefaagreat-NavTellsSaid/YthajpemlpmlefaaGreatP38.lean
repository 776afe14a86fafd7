import Derived.Test.YthajpemlpmlefaaGreatP37
set_option maxHeartbeats 512000000
set_option maxRecDepth 4000
set_option linter.unusedVariables false
set_option linter.unusedSimpArgs false
namespace Go.Proofs.YthajpemlpmlefaaGreat
open Go.RowKit
theorem cent_in{g:Grd}(hg:GrdOk g):(-64≤(centN g).x∧(centN g).x≤64)∧(-64≤(centN g).y∧(centN g).y≤64)∧(1≤(centN g).w∧(centN g).w≤16)∧(1≤(centN g).h∧(centN g).h≤16)∧(centN g).kind=3:=by
 have hm4:=hg.len
 obtain⟨W,H,hW,hH,hW1,hH1,hWH⟩:=nat_sides hg
 obtain⟨k,hk2,hk1,-,-⟩:=pk_top hg.2.2 hm4.1 hm4.2
 have hrow:=row_lt (W:=W) (H:=H) (i:=k) (by omega)
 obtain⟨e1,e2,e3,e4⟩:=col_at (W:=W) (by omega) k
 unfold centN
 dsimp only
 rw[hk1,show (max (k:Int) 0).toNat=k by omega,hW,hH,e1,e2]
 generalize k/W=kr at *
 generalize k%W=kc at *
 refine⟨by omega,by omega,by omega,by omega,rfl⟩
attribute [local irreducible] OJ J HdJ Code.wpIn wpListIn Oper.wpIn bodyPost CallsIn Does
theorem split_no(g:Grd)(A:Option Addr)(c:Nat)(ho:¬splitOk g)(hs:sidesOk g.w g.h g.st):CV Tryz.prog 193 [.agg (grE g A c).toArray] (.tuple #[.agg (grE g A c).toArray,.int .i64 12]) True:=⟨fun _ w=>by
 obtain⟨gw,gh,gx,gy,gs,p⟩:=g
 unfold splitOk at ho
 unfold sidesOk at hs
 dsimp only at ho hs ⊢
 dsimp only[grE]
 refine does_of Tryz.func193 rfl Tryz.ntmps193 rfl ⟨by simp,.nil⟩ (fun _=>?_)
 simp only[slots]
 refine z_tas
 all_goals first
  | (exfalso;omega)
  | (refine z_ro;exact⟨rfl,rfl⟩)⟩
theorem join_no(g:Grd)(A:Option Addr)(c:Nat)(ho:¬joinOk g)(hs:sidesOk g.w g.h g.st):CV Tryz.prog 194 [.agg (grE g A c).toArray] (.tuple #[.agg (grE g A c).toArray,.int .i64 12]) True:=⟨fun _ w=>by
 obtain⟨gw,gh,gx,gy,gs,p⟩:=g
 unfold joinOk at ho
 unfold sidesOk at hs
 dsimp only at ho hs ⊢
 dsimp only[grE]
 refine does_of Tryz.func194 rfl Tryz.ntmps194 rfl ⟨by simp,.nil⟩ (fun _=>?_)
 simp only[slots]
 refine z_tas
 all_goals first
  | (exfalso;omega)
  | (refine z_ro;exact⟨rfl,rfl⟩)⟩
theorem choose_any(g:Grd)(A:Option Addr)(c:Nat)(w:World)(hr:RoA w (blocks []) A g.p.length c 1 (ints .i64 g.p))(hg:GrdOk g)(hx : -4611686018427387904≤g.x∧g.x≤4611686018427387904)(hy : -4611686018427387904≤g.y∧g.y≤4611686018427387904):
  Does Tryz.prog 192 [.agg (grE g A c).toArray] [] w (fun v S'=>v=.agg (rstE (chooseN g)).toArray∧S'=[]):=by
 have hm4:=hg.len
 have hci:=cent_in hg
 have hK:=fun w hw=>gcheck_any g A c w hw hg.1 hg.2.1 hg.2.2.1 hg.2.2.2.1 hg.2.2.2.2
 have hD:=fun w hw=>edge_any g A c w hw hg
 have hE:=fun w hw=>even14_any g A c w hw hg
 have hC:=fun w hw=>centred_any g A c w hw hg
 have hsd:=hg.1
 unfold sidesOk at hsd
 unfold chooseN
 generalize edgeN g=ed at *
 generalize evenN g=ev at *
 generalize centN g=ce at *
 obtain⟨ck,cx,cy,cw,ch⟩:=ce
 obtain⟨gw,gh,gx,gy,gs,p⟩:=g
 dsimp only at hr hx hy hm4 hci hK hD hE hC hsd ⊢
 dsimp only[grE]at *
 dsimp only[rstE]at *
 obtain⟨g1,g2,g3,g4,rfl⟩:=hci
 refine does_of Tryz.func192 rfl Tryz.ntmps192 rfl ⟨by simp,.nil⟩ (fun _=>?_)
 simp only[slots]
 refine z_tas
 refine lfv rfl rfl rfl (fun w hw=>hK w ⟨hr.h.go hw (Split.nil _)⟩) ?_
 refine z_tas
 refine lfv rfl rfl rfl (fun w hw=>hD w ⟨hr.h.go hw (Split.nil _)⟩) ?_
 by_cases c1:134217728<ed∧8≤gw∧8≤gh
 ·obtain⟨b1,b2,b3⟩:=c1
  by_cases o1:joinOk ⟨gw,gh,gx,gy,gs,p⟩
  ·rw[if_pos ⟨b1,b2,b3,o1⟩]
   refine z_tas
   all_goals try (exfalso;omega)
   refine lf rfl rfl rfl (S:=[]) (fun w hw ho=>join_anyG ⟨gw,gh,gx,gy,gs,p⟩ A c w ⟨hr.h.go hw (Split.nil _)⟩ hg hx hy o1) ?_
   rintro v S' ⟨u,rfl,Aj,cj,rfl,rfl⟩
   dsimp only[grE]
   refine z_tas
   refine z_ro
   exact⟨rfl,rfl⟩
  ·rw[if_neg (by rintro⟨-,-,-,h⟩;exact o1 h)]
   have iJ:=join_no ⟨gw,gh,gx,gy,gs,p⟩ A c o1 hg.1
   refine z_tas
   all_goals try (exfalso;omega)
   all_goals (
    refine z_tas
    refine lfv rfl rfl rfl (fun w hw=>hE w ⟨hr.h.go hw (Split.nil _)⟩) ?_
    by_cases c2:ev<8∧gw≤16∧gh≤16
    ·obtain⟨d1,d2,d3⟩:=c2
     by_cases o2:splitOk ⟨gw,gh,gx,gy,gs,p⟩
     ·rw[if_pos ⟨d1,d2,d3,o2⟩]
      refine z_tas
      all_goals try (exfalso;omega)
      refine lf rfl rfl rfl (S:=[]) (fun w hw ho=>split_any ⟨gw,gh,gx,gy,gs,p⟩ A c w ⟨hr.h.go hw (Split.nil _)⟩ hg hx hy o2) ?_
      rintro v S' ⟨u,rfl,Aj,cj,rfl,rfl⟩
      dsimp only[grE]
      refine z_tas
      refine z_ro
      exact⟨rfl,rfl⟩
     ·rw[if_neg (by rintro⟨-,-,-,h⟩;exact o2 h)]
      have iS:=split_no ⟨gw,gh,gx,gy,gs,p⟩ A c o2 hg.1
      refine z_tas
      all_goals try (exfalso;omega)
      all_goals (
       refine lfv rfl rfl rfl (fun w hw=>hC w ⟨hr.h.go hw (Split.nil _)⟩) ?_
       refine z_tas
       all_goals first
        | (rw[if_pos (by omega)];refine z_ro;exact⟨rfl,rfl⟩)
        | (rw[if_neg (by omega)];refine z_ro;exact⟨rfl,rfl⟩)
        | (exfalso;omega))
    ·rw[if_neg (by rintro⟨h1,h2,h3,-⟩;exact c2 ⟨h1,h2,h3⟩)]
     refine z_tas
     all_goals try (exfalso;omega)
     all_goals (
      refine lfv rfl rfl rfl (fun w hw=>hC w ⟨hr.h.go hw (Split.nil _)⟩) ?_
      refine z_tas
      all_goals first
       | (rw[if_pos (by omega)];refine z_ro;exact⟨rfl,rfl⟩)
       | (rw[if_neg (by omega)];refine z_ro;exact⟨rfl,rfl⟩)
       | (exfalso;omega)))
 ·rw[if_neg (by rintro⟨h1,h2,h3,-⟩;exact c1 ⟨h1,h2,h3⟩)]
  refine z_tas
  all_goals try (exfalso;omega)
  all_goals (
   refine z_tas
   refine lfv rfl rfl rfl (fun w hw=>hE w ⟨hr.h.go hw (Split.nil _)⟩) ?_
   by_cases c2:ev<8∧gw≤16∧gh≤16
   ·obtain⟨d1,d2,d3⟩:=c2
    by_cases o2:splitOk ⟨gw,gh,gx,gy,gs,p⟩
    ·rw[if_pos ⟨d1,d2,d3,o2⟩]
     refine z_tas
     all_goals try (exfalso;omega)
     refine lf rfl rfl rfl (S:=[]) (fun w hw ho=>split_any ⟨gw,gh,gx,gy,gs,p⟩ A c w ⟨hr.h.go hw (Split.nil _)⟩ hg hx hy o2) ?_
     rintro v S' ⟨u,rfl,Aj,cj,rfl,rfl⟩
     dsimp only[grE]
     refine z_tas
     refine z_ro
     exact⟨rfl,rfl⟩
    ·rw[if_neg (by rintro⟨-,-,-,h⟩;exact o2 h)]
     have iS:=split_no ⟨gw,gh,gx,gy,gs,p⟩ A c o2 hg.1
     refine z_tas
     all_goals try (exfalso;omega)
     all_goals (
      refine lfv rfl rfl rfl (fun w hw=>hC w ⟨hr.h.go hw (Split.nil _)⟩) ?_
      refine z_tas
      all_goals first
       | (rw[if_pos (by omega)];refine z_ro;exact⟨rfl,rfl⟩)
       | (rw[if_neg (by omega)];refine z_ro;exact⟨rfl,rfl⟩)
       | (exfalso;omega))
   ·rw[if_neg (by rintro⟨h1,h2,h3,-⟩;exact c2 ⟨h1,h2,h3⟩)]
    refine z_tas
    all_goals try (exfalso;omega)
    all_goals (
     refine lfv rfl rfl rfl (fun w hw=>hC w ⟨hr.h.go hw (Split.nil _)⟩) ?_
     refine z_tas
     all_goals first
      | (rw[if_pos (by omega)];refine z_ro;exact⟨rfl,rfl⟩)
      | (rw[if_neg (by omega)];refine z_ro;exact⟨rfl,rfl⟩)
      | (exfalso;omega)))
end Go.Proofs.YthajpemlpmlefaaGreat
