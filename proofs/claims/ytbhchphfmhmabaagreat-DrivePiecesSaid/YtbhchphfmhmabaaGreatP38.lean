import Derived.Test.YtbhchphfmhmabaaGreatP37
set_option maxHeartbeats 512000000
set_option maxRecDepth 4000
set_option linter.unusedVariables false
set_option linter.unusedSimpArgs false
namespace Go.Proofs.YtbhchphfmhmabaaGreat
open Go.RowKit _root_.Go.Proofs.Tryz
theorem aJ1{g:bE}(hg:cH g):(-64≤(dB g).x∧(dB g).x≤64)∧(-64≤(dB g).y∧(dB g).y≤64)∧(1≤(dB g).w∧(dB g).w≤16)∧(1≤(dB g).h∧(dB g).h≤16)∧(dB g).kind=3:=by have hm4:=hg.len;obtain⟨W,H,hW,hH,hW1,hH1,hWH⟩:=oW hg;obtain⟨k,hk2,hk1,-,-⟩:=zJ hg.2.2 hm4.1 hm4.2;have hrow:=rF (W:=W) (H:=H) (i:=k) oo;obtain⟨e1,e2,e3,e4⟩:=oD (W:=W) oo k;unfold dB;dsimp only;rw[hk1,show (max (k:Int) 0).toNat=k by omega,hW,hH,e1,e2];generalize k/W=kr at *;generalize k%W=kc at *;refine⟨oo,oo,oo,oo,rfl⟩
attribute [local irreducible] OJ J bM Code.wpIn wpListIn Oper.wpIn bodyPost CallsIn aF
theorem aNs(g:bE)(A:Option Addr)(c:Nat)(ho:¬tT g)(hs:kC g.w g.h g.st):CV prog 211 [.agg (aQ g A c).toArray] (.tuple #[.agg (aQ g A c).toArray,.int .i64 12]) True:=⟨fun _ w=>by
 obtain⟨gw,gh,gx,gy,gs,p⟩:=g;unfold tT at ho;unfold kC at hs;dsimp only at ho hs ⊢;dsimp only[aQ];refine aJ func211 rfl ntmps211 rfl ⟨aE,.nil⟩ (fun _=>?_);simp only[aG];refine aB;all_goals first
  | (exfalso;omega)
  | (refine bK;exact⟨rfl,rfl⟩)⟩
theorem aV1(g:bE)(A:Option Addr)(c:Nat)(ho:¬uU g)(hs:kC g.w g.h g.st):CV prog 212 [.agg (aQ g A c).toArray] (.tuple #[.agg (aQ g A c).toArray,.int .i64 12]) True:=⟨fun _ w=>by
 obtain⟨gw,gh,gx,gy,gs,p⟩:=g;unfold uU at ho;unfold kC at hs;dsimp only at ho hs ⊢;dsimp only[aQ];refine aJ func212 rfl ntmps212 rfl ⟨aE,.nil⟩ (fun _=>?_);simp only[aG];refine aB;all_goals first
  | (exfalso;omega)
  | (refine bK;exact⟨rfl,rfl⟩)⟩
theorem aS7(g:bE)(A:Option Addr)(c:Nat)(w:World)(hr:bP w (bB []) A g.p.length c 1 (aD .i64 g.p))(hg:cH g)(hx : -4611686018427387904≤g.x∧g.x≤4611686018427387904)(hy : -4611686018427387904≤g.y∧g.y≤4611686018427387904):
  aF prog 210 [.agg (aQ g A c).toArray] [] w (fun v S'=>v=.agg (rG (aW g)).toArray∧S'=[]):=by
 have hm4:=hg.len;have hci:=aJ1 hg;have hK:=fun w hw=>aTs g A c w hw hg.1 hg.2.1 hg.2.2.1 hg.2.2.2.1 hg.2.2.2.2;have hD:=fun w hw=>aSz g A c w hw hg;have hE:=fun w hw=>aT1 g A c w hw hg;have hC:=fun w hw=>aRs g A c w hw hg;have hsd:=hg.1;unfold kC at hsd;unfold aW;generalize aCd g=ed at *;generalize aCe g=ev at *;generalize dB g=ce at *;obtain⟨ck,cx,cy,cw,ch⟩:=ce;obtain⟨gw,gh,gx,gy,gs,p⟩:=g;dsimp only at hr hx hy hm4 hci hK hD hE hC hsd ⊢;dsimp only[aQ]at *;dsimp only[rG]at *;obtain⟨g1,g2,g3,g4,rfl⟩:=hci;refine aJ func210 rfl ntmps210 rfl ⟨aE,.nil⟩ (fun _=>?_);simp only[aG];refine aB;refine bU rfl rfl rfl (fun w hw=>hK w ⟨hr.h.go hw (aC.nil _)⟩) ?_;refine aB;refine bU rfl rfl rfl (fun w hw=>hD w ⟨hr.h.go hw (aC.nil _)⟩) ?_;by_cases c1:134217728<ed∧8≤gw∧8≤gh
 ·obtain⟨b1,b2,b3⟩:=c1;by_cases o1:uU ⟨gw,gh,gx,gy,gs,p⟩
  ·rw[if_pos ⟨b1,b2,b3,o1⟩];refine aB;all_goals try (exfalso;omega)
   refine lf rfl rfl rfl (S:=[]) (fun w hw ho=>aKu ⟨gw,gh,gx,gy,gs,p⟩ A c w ⟨hr.h.go hw (aC.nil _)⟩ hg hx hy o1) ?_;rintro v S' ⟨u,rfl,Aj,cj,rfl,rfl⟩;dsimp only[aQ];refine aB;refine bK;exact⟨rfl,rfl⟩
  ·rw[if_neg (by rintro⟨-,-,-,h⟩;exact o1 h)];have iJ:=aV1 ⟨gw,gh,gx,gy,gs,p⟩ A c o1 hg.1;refine aB;all_goals try (exfalso;omega)
   all_goals (
    refine aB;refine bU rfl rfl rfl (fun w hw=>hE w ⟨hr.h.go hw (aC.nil _)⟩) ?_;by_cases c2:ev<8∧gw≤16∧gh≤16
    ·obtain⟨d1,d2,d3⟩:=c2;by_cases o2:tT ⟨gw,gh,gx,gy,gs,p⟩
     ·rw[if_pos ⟨d1,d2,d3,o2⟩];refine aB;all_goals try (exfalso;omega)
      refine lf rfl rfl rfl (S:=[]) (fun w hw ho=>aHd ⟨gw,gh,gx,gy,gs,p⟩ A c w ⟨hr.h.go hw (aC.nil _)⟩ hg hx hy o2) ?_;rintro v S' ⟨u,rfl,Aj,cj,rfl,rfl⟩;dsimp only[aQ];refine aB;refine bK;exact⟨rfl,rfl⟩
     ·rw[if_neg (by rintro⟨-,-,-,h⟩;exact o2 h)];have iS:=aNs ⟨gw,gh,gx,gy,gs,p⟩ A c o2 hg.1;refine aB;all_goals try (exfalso;omega)
      all_goals (
       refine bU rfl rfl rfl (fun w hw=>hC w ⟨hr.h.go hw (aC.nil _)⟩) ?_;refine aB;all_goals first
        | (rw[if_pos oo];refine bK;exact⟨rfl,rfl⟩)
        | (rw[if_neg oo];refine bK;exact⟨rfl,rfl⟩)
        | (exfalso;omega))
    ·rw[if_neg (by rintro⟨h1,h2,h3,-⟩;exact c2 ⟨h1,h2,h3⟩)];refine aB;all_goals try (exfalso;omega)
     all_goals (
      refine bU rfl rfl rfl (fun w hw=>hC w ⟨hr.h.go hw (aC.nil _)⟩) ?_;refine aB;all_goals first
       | (rw[if_pos oo];refine bK;exact⟨rfl,rfl⟩)
       | (rw[if_neg oo];refine bK;exact⟨rfl,rfl⟩)
       | (exfalso;omega)))
 ·rw[if_neg (by rintro⟨h1,h2,h3,-⟩;exact c1 ⟨h1,h2,h3⟩)];refine aB;all_goals try (exfalso;omega)
  all_goals (
   refine aB;refine bU rfl rfl rfl (fun w hw=>hE w ⟨hr.h.go hw (aC.nil _)⟩) ?_;by_cases c2:ev<8∧gw≤16∧gh≤16
   ·obtain⟨d1,d2,d3⟩:=c2;by_cases o2:tT ⟨gw,gh,gx,gy,gs,p⟩
    ·rw[if_pos ⟨d1,d2,d3,o2⟩];refine aB;all_goals try (exfalso;omega)
     refine lf rfl rfl rfl (S:=[]) (fun w hw ho=>aHd ⟨gw,gh,gx,gy,gs,p⟩ A c w ⟨hr.h.go hw (aC.nil _)⟩ hg hx hy o2) ?_;rintro v S' ⟨u,rfl,Aj,cj,rfl,rfl⟩;dsimp only[aQ];refine aB;refine bK;exact⟨rfl,rfl⟩
    ·rw[if_neg (by rintro⟨-,-,-,h⟩;exact o2 h)];have iS:=aNs ⟨gw,gh,gx,gy,gs,p⟩ A c o2 hg.1;refine aB;all_goals try (exfalso;omega)
     all_goals (
      refine bU rfl rfl rfl (fun w hw=>hC w ⟨hr.h.go hw (aC.nil _)⟩) ?_;refine aB;all_goals first
       | (rw[if_pos oo];refine bK;exact⟨rfl,rfl⟩)
       | (rw[if_neg oo];refine bK;exact⟨rfl,rfl⟩)
       | (exfalso;omega))
   ·rw[if_neg (by rintro⟨h1,h2,h3,-⟩;exact c2 ⟨h1,h2,h3⟩)];refine aB;all_goals try (exfalso;omega)
    all_goals (
     refine bU rfl rfl rfl (fun w hw=>hC w ⟨hr.h.go hw (aC.nil _)⟩) ?_;refine aB;all_goals first
      | (rw[if_pos oo];refine bK;exact⟨rfl,rfl⟩)
      | (rw[if_neg oo];refine bK;exact⟨rfl,rfl⟩)
      | (exfalso;omega)))
