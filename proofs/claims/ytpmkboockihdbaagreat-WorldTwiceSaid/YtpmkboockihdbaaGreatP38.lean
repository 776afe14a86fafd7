import Derived.Test.YtpmkboockihdbaaGreatP37
set_option maxHeartbeats 512000000
set_option maxRecDepth 4000
set_option linter.unusedVariables false
set_option linter.unusedSimpArgs false
namespace Go.Proofs.YtpmkboockihdbaaGreat
open Go.RowKit _root_.Go.Proofs.Tryz
theorem aJs{g:bE}(hg:cO g):(-64≤(dG g).x∧(dG g).x≤64)∧(-64≤(dG g).y∧(dG g).y≤64)∧(1≤(dG g).w∧(dG g).w≤16)∧(1≤(dG g).h∧(dG g).h≤16)∧(dG g).kind=3:=by have hm4:=hg.len;obtain⟨W,H,hW,hH,hW1,hH1,hWH⟩:=oC hg;obtain⟨k,hk2,hk1,-,-⟩:=aA3 hg.2.2 hm4.1 hm4.2;have hrow:=pR (W:=W) (H:=H) (i:=k) oo;obtain⟨e1,e2,e3,e4⟩:=nG (W:=W) oo k;unfold dG;dsimp only;rw[hk1,show (max (k:Int) 0).toNat=k by omega,hW,hH,e1,e2];generalize k/W=kr at *;generalize k%W=kc at *;refine⟨oo,oo,oo,oo,rfl⟩
attribute [local irreducible] OJ J bO Code.wpIn wpListIn Oper.wpIn bodyPost CallsIn aF
theorem aOp(g:bE)(A:Option Addr)(c:Nat)(ho:¬uP g)(hs:kY g.w g.h g.st):CV prog 243 [.agg (aQ g A c).toArray] (.tuple #[.agg (aQ g A c).toArray,.int .i64 12]) True:=⟨fun _ w=>by
 obtain⟨gw,gh,gx,gy,gs,p⟩:=g;unfold uP at ho;unfold kY at hs;dsimp only at ho hs ⊢;dsimp only[aQ];refine aJ func243 rfl ntmps243 rfl ⟨aE,.nil⟩ (fun _=>?_);simp only[aG];refine aB;all_goals first
  | (exfalso;omega)
  | (refine bI;exact⟨rfl,rfl⟩)⟩
theorem aVl(g:bE)(A:Option Addr)(c:Nat)(ho:¬vQ g)(hs:kY g.w g.h g.st):CV prog 244 [.agg (aQ g A c).toArray] (.tuple #[.agg (aQ g A c).toArray,.int .i64 12]) True:=⟨fun _ w=>by
 obtain⟨gw,gh,gx,gy,gs,p⟩:=g;unfold vQ at ho;unfold kY at hs;dsimp only at ho hs ⊢;dsimp only[aQ];refine aJ func244 rfl ntmps244 rfl ⟨aE,.nil⟩ (fun _=>?_);simp only[aG];refine aB;all_goals first
  | (exfalso;omega)
  | (refine bI;exact⟨rfl,rfl⟩)⟩
theorem aSv(g:bE)(A:Option Addr)(c:Nat)(w:World)(hr:bF w (aV []) A g.p.length c 1 (aC .i64 g.p))(hg:cO g)(hx : -4611686018427387904≤g.x∧g.x≤4611686018427387904)(hy : -4611686018427387904≤g.y∧g.y≤4611686018427387904):
  aF prog 242 [.agg (aQ g A c).toArray] [] w (fun v S'=>v=.agg (sI (bB g)).toArray∧S'=[]):=by
 have hm4:=hg.len;have hci:=aJs hg;have hK:=fun w hw=>aL0 g A c w hw hg.1 hg.2.1 hg.2.2.1 hg.2.2.2.1 hg.2.2.2.2;have hD:=fun w hw=>aTl g A c w hw hg;have hE:=fun w hw=>aTn g A c w hw hg;have hC:=fun w hw=>aSh g A c w hw hg;have hsd:=hg.1;unfold kY at hsd;unfold bB;generalize aD0 g=ed at *;generalize aD1 g=ev at *;generalize dG g=ce at *;obtain⟨ck,cx,cy,cw,ch⟩:=ce;obtain⟨gw,gh,gx,gy,gs,p⟩:=g;dsimp only at hr hx hy hm4 hci hK hD hE hC hsd ⊢;dsimp only[aQ]at *;dsimp only[sI]at *;obtain⟨g1,g2,g3,g4,rfl⟩:=hci;refine aJ func242 rfl ntmps242 rfl ⟨aE,.nil⟩ (fun _=>?_);simp only[aG];refine aB;refine bQ rfl rfl rfl (fun w hw=>hK w ⟨hr.h.go hw (aD.nil _)⟩) ?_;refine aB;refine bQ rfl rfl rfl (fun w hw=>hD w ⟨hr.h.go hw (aD.nil _)⟩) ?_;by_cases c1:134217728<ed∧8≤gw∧8≤gh
 ·obtain⟨b1,b2,b3⟩:=c1;by_cases o1:vQ ⟨gw,gh,gx,gy,gs,p⟩
  ·rw[if_pos ⟨b1,b2,b3,o1⟩];refine aB;all_goals try (exfalso;omega)
   refine lf rfl rfl rfl (S:=[]) (fun w hw ho=>aLl ⟨gw,gh,gx,gy,gs,p⟩ A c w ⟨hr.h.go hw (aD.nil _)⟩ hg hx hy o1) ?_;rintro v S' ⟨u,rfl,Aj,cj,rfl,rfl⟩;dsimp only[aQ];refine aB;refine bI;exact⟨rfl,rfl⟩
  ·rw[if_neg (by rintro⟨-,-,-,h⟩;exact o1 h)];have iJ:=aVl ⟨gw,gh,gx,gy,gs,p⟩ A c o1 hg.1;refine aB;all_goals try (exfalso;omega)
   all_goals (
    refine aB;refine bQ rfl rfl rfl (fun w hw=>hE w ⟨hr.h.go hw (aD.nil _)⟩) ?_;by_cases c2:ev<8∧gw≤16∧gh≤16
    ·obtain⟨d1,d2,d3⟩:=c2;by_cases o2:uP ⟨gw,gh,gx,gy,gs,p⟩
     ·rw[if_pos ⟨d1,d2,d3,o2⟩];refine aB;all_goals try (exfalso;omega)
      refine lf rfl rfl rfl (S:=[]) (fun w hw ho=>aI2 ⟨gw,gh,gx,gy,gs,p⟩ A c w ⟨hr.h.go hw (aD.nil _)⟩ hg hx hy o2) ?_;rintro v S' ⟨u,rfl,Aj,cj,rfl,rfl⟩;dsimp only[aQ];refine aB;refine bI;exact⟨rfl,rfl⟩
     ·rw[if_neg (by rintro⟨-,-,-,h⟩;exact o2 h)];have iS:=aOp ⟨gw,gh,gx,gy,gs,p⟩ A c o2 hg.1;refine aB;all_goals try (exfalso;omega)
      all_goals (
       refine bQ rfl rfl rfl (fun w hw=>hC w ⟨hr.h.go hw (aD.nil _)⟩) ?_;refine aB;all_goals first
        | (rw[if_pos oo];refine bI;exact⟨rfl,rfl⟩)
        | (rw[if_neg oo];refine bI;exact⟨rfl,rfl⟩)
        | (exfalso;omega))
    ·rw[if_neg (by rintro⟨h1,h2,h3,-⟩;exact c2 ⟨h1,h2,h3⟩)];refine aB;all_goals try (exfalso;omega)
     all_goals (
      refine bQ rfl rfl rfl (fun w hw=>hC w ⟨hr.h.go hw (aD.nil _)⟩) ?_;refine aB;all_goals first
       | (rw[if_pos oo];refine bI;exact⟨rfl,rfl⟩)
       | (rw[if_neg oo];refine bI;exact⟨rfl,rfl⟩)
       | (exfalso;omega)))
 ·rw[if_neg (by rintro⟨h1,h2,h3,-⟩;exact c1 ⟨h1,h2,h3⟩)];refine aB;all_goals try (exfalso;omega)
  all_goals (
   refine aB;refine bQ rfl rfl rfl (fun w hw=>hE w ⟨hr.h.go hw (aD.nil _)⟩) ?_;by_cases c2:ev<8∧gw≤16∧gh≤16
   ·obtain⟨d1,d2,d3⟩:=c2;by_cases o2:uP ⟨gw,gh,gx,gy,gs,p⟩
    ·rw[if_pos ⟨d1,d2,d3,o2⟩];refine aB;all_goals try (exfalso;omega)
     refine lf rfl rfl rfl (S:=[]) (fun w hw ho=>aI2 ⟨gw,gh,gx,gy,gs,p⟩ A c w ⟨hr.h.go hw (aD.nil _)⟩ hg hx hy o2) ?_;rintro v S' ⟨u,rfl,Aj,cj,rfl,rfl⟩;dsimp only[aQ];refine aB;refine bI;exact⟨rfl,rfl⟩
    ·rw[if_neg (by rintro⟨-,-,-,h⟩;exact o2 h)];have iS:=aOp ⟨gw,gh,gx,gy,gs,p⟩ A c o2 hg.1;refine aB;all_goals try (exfalso;omega)
     all_goals (
      refine bQ rfl rfl rfl (fun w hw=>hC w ⟨hr.h.go hw (aD.nil _)⟩) ?_;refine aB;all_goals first
       | (rw[if_pos oo];refine bI;exact⟨rfl,rfl⟩)
       | (rw[if_neg oo];refine bI;exact⟨rfl,rfl⟩)
       | (exfalso;omega))
   ·rw[if_neg (by rintro⟨h1,h2,h3,-⟩;exact c2 ⟨h1,h2,h3⟩)];refine aB;all_goals try (exfalso;omega)
    all_goals (
     refine bQ rfl rfl rfl (fun w hw=>hC w ⟨hr.h.go hw (aD.nil _)⟩) ?_;refine aB;all_goals first
      | (rw[if_pos oo];refine bI;exact⟨rfl,rfl⟩)
      | (rw[if_neg oo];refine bI;exact⟨rfl,rfl⟩)
      | (exfalso;omega)))
