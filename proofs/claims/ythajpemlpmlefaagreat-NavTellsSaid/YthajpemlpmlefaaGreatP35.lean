import Derived.Test.YthajpemlpmlefaaGreatP32
set_option maxHeartbeats 512000000
set_option maxRecDepth 4000
set_option linter.unusedVariables false
set_option linter.unusedSimpArgs false
namespace Go.Proofs.YthajpemlpmlefaaGreat
open Go.RowKit
attribute [local irreducible] OJ J HdJ Code.wpIn wpListIn Oper.wpIn bodyPost CallsIn Does
theorem sqG_in{p:List Int}(hp:Pos30 p):∀n,n≤p.length→0≤sumG p (fun i=>p.getD i 0) n∧sumG p (fun i=>p.getD i 0) n≤1152921504606846976*(n:Int):=fun n hn=>by
 have h:=sumG_in (f:=fun i=>p.getD i 0) (F:=1073741824) hp (fun i hi=>hp i hi) n hn
 have h2:=sumL_in (l:=p) (B:=1073741824) hp n hn
 omega
theorem varyg_any(g:Grd)(A:Option Addr)(c:Nat)(w:World)(hr:RoA w (blocks []) A g.p.length c 1 (ints .i64 g.p))(hg:GrdOk g):
  Does Tryz.prog 174 [.agg (grE g A c).toArray] [] w (fun v S'=>∃m,v=.tuple #[.agg #[.int .i64 (varX g),.int .i64 m,.int .i64 (varY g)],.bool true]∧S'=[]):=by
 obtain⟨W,H,hW,hH,hW1,hH1,hWH⟩:=nat_sides hg
 have hm4:=hg.len
 obtain⟨⟨⟨a1,a2⟩,⟨a3,a4⟩,a5,a6⟩,hl,hp,hs1,hs2⟩:=id hg
 have hcl:=fun i=>colI_in a1 i
 have hrw:∀i,i<g.p.length→0≤rowI g.w i∧rowI g.w i≤63:=fun i hi=>by
  rw[hW,(col_at (by omega) i).2.1]
  have:=row_lt (W:=W) (H:=H) (i:=i) (by omega)
  generalize i/W=r at *
  omega
 have hcc:∀i,0≤colI g.w i*colI g.w i∧colI g.w i*colI g.w i≤3969:=fun i=>mul_in (A:=63) (B:=63) (by have:=hcl i;omega) (by have:=hcl i;omega)
 have hcr:∀i,i<g.p.length→0≤colI g.w i*rowI g.w i∧colI g.w i*rowI g.w i≤3969:=fun i hi=>mul_in (A:=63) (B:=63) (by have:=hcl i;omega) (hrw i hi)
 have hrr:∀i,i<g.p.length→0≤rowI g.w i*rowI g.w i∧rowI g.w i*rowI g.w i≤3969:=fun i hi=>mul_in (A:=63) (B:=63) (hrw i hi) (hrw i hi)
 have hsX:=sumG_in (f:=colI g.w) (F:=63) hp (fun i hi=>by have:=hcl i;omega)
 have hsY:=sumG_in (f:=rowI g.w) (F:=63) hp hrw
 have hsXX:=sumG_in (f:=fun i=>colI g.w i*colI g.w i) (F:=3969) hp (fun i hi=>hcc i)
 have hsXY:=sumG_in (f:=fun i=>colI g.w i*rowI g.w i) (F:=3969) hp hcr
 have hsYY:=sumG_in (f:=fun i=>rowI g.w i*rowI g.w i) (F:=3969) hp hrr
 have hsS:=sumL_in (l:=g.p) (B:=1073741824) hp
 have hX:=hsX _ (Nat.le_refl _)
 have hY:=hsY _ (Nat.le_refl _)
 have hXX:=hsXX _ (Nat.le_refl _)
 have hXY:=hsXY _ (Nat.le_refl _)
 have hYY:=hsYY _ (Nat.le_refl _)
 unfold varX varY
 obtain⟨gw,gh,gx,gy,gs,p⟩:=g
 dsimp only at hr a1 a2 a3 a4 a5 a6 hl hp hs1 hs2 hcl hrw hsX hsY hsS hX hY hcc hcr hrr hsXX hsXY hsYY hXX hXY hYY hm4 hW hH hWH ⊢
 dsimp only[grE]
 clear hg
 refine does_ofM Tryz.func174 rfl Tryz.ntmps174 rfl ⟨by simp,.nil⟩ (fun n=>?_)
 simp only[slots]
 refine z_tas
 rename_i b1 b2 b4 b5 b6 b7 b8 b9
 refine lf rfl rfl rfl (S:=[]) (fun w hw ho=>plcG_any ⟨gw,gh,gx,gy,gs,p⟩ A c w) ?_
 rintro v S' ⟨gb,rfl,rfl⟩
 refine z_tas
 refine c_places (g:=⟨gw,gh,gx,gy,gs,p⟩) (A:=A) (c:=c) (S:=[.blk b4 2 [.int .i64 0],.blk b5 2 [.int .i64 0],.blk b6 2 [.int .i64 0],.blk b7 2 [.int .i64 0],.blk b8 2 [.int .i64 0],.blk b9 2 [.int .i64 0]]) (fun i S=>S=[.blk b4 2 [.int .i64 (sumG p (colI gw) i)],.blk b5 2 [.int .i64 (sumG p (rowI gw) i)],.blk b6 2 [.int .i64 (sumG p (fun i=>colI gw i*colI gw i) i)],.blk b7 2 [.int .i64 (sumG p (fun i=>colI gw i*rowI gw i) i)],.blk b8 2 [.int .i64 (sumG p (fun i=>rowI gw i*rowI gw i) i)],.blk b9 2 [.int .i64 (sumL p i)]]) rfl Split.au hr.h a1 (by dsimp only;omega) rfl ?_ ?_ ?_
 ·rintro i S1 hi hp0 rfl
  have h0:p.getD i 0=0:=by have:=(hp i hi).1;dsimp only at hp0;omega
  have e1:∀f,sumG p f (i+1)=sumG p f i:=fun f=>by rw[show sumG p f (i+1)=sumG p f i+p.getD i 0*f i from rfl,h0,Int.zero_mul,Int.add_zero]
  have e3:sumL p (i+1)=sumL p i:=by rw[show sumL p (i+1)=sumL p i+p.getD i 0 from rfl,h0,Int.add_zero]
  rw[e1,e1,e1,e1,e1,e3]
 ·rintro lp i S1 hi hp0 rfl w1 ho
  dsimp only at hi hp0
  have e1:∀f,sumG p f (i+1)=sumG p f i+p.getD i 0*f i:=fun f=>rfl
  have e3:sumL p (i+1)=sumL p i+p.getD i 0:=rfl
  have k1:=hsX i (by omega)
  have k2:=hsY i (by omega)
  have k3:=hsS i (by omega)
  have k4:=hcl i
  have k5:=hrw i hi
  have k6:=hp i hi
  have k7:=hsXX i (by omega)
  have k8:=hsXY i (by omega)
  have k9:=hsYY i (by omega)
  have q1:=mul_in (a:=p.getD i 0) (b:=colI gw i) (A:=1073741824) (B:=64) (by omega) (by omega)
  have q2:=mul_in (a:=p.getD i 0) (b:=rowI gw i) (A:=1073741824) (B:=64) (by omega) (by omega)
  have q3:=mul_in (a:=p.getD i 0*colI gw i) (b:=colI gw i) (A:=68719476736) (B:=64) (by omega) (by omega)
  have q4:=mul_in (a:=p.getD i 0*colI gw i) (b:=rowI gw i) (A:=68719476736) (B:=64) (by omega) (by omega)
  have q5:=mul_in (a:=p.getD i 0*rowI gw i) (b:=rowI gw i) (A:=68719476736) (B:=64) (by omega) (by omega)
  rw[e1,e1,e1,e1,e1,e3]
  dsimp only
  rw[← Int.mul_assoc,← Int.mul_assoc,← Int.mul_assoc]
  generalize sumG p (colI gw) i=sx at *
  generalize sumG p (rowI gw) i=sy at *
  generalize sumG p (fun i=>colI gw i*colI gw i) i=sxx at *
  generalize sumG p (fun i=>colI gw i*rowI gw i) i=sxy at *
  generalize sumG p (fun i=>rowI gw i*rowI gw i) i=syy at *
  generalize sumL p i=ss at *
  generalize p.getD i 0=pi at *
  generalize colI gw i=ci at *
  generalize rowI gw i=ri at *
  clear hsX hsY hsS hcl hrw hp hX hY hs1 hs2 e1 e3 hl hcc hcr hrr hsXX hsXY hsYY hXX hXY hYY
  refine yields_of (N:=77) ho rfl (by simp) (fun n=>?_)
  simp only[over]
  refine z_tas
  refine c_beg ?_
  refine z_tas
  rename_i b10
  generalize hLE:HE.loop _ _ _ _ _ _ LoopState.busy none=LE
  refine c_joinE2 (X:=Unit) (fun _=>True) (fun _=>[(6,.pointer (some ⟨b6,0,none⟩)),(7,.pointer (some ⟨b7,0,none⟩)),(8,.pointer (some ⟨b8,0,none⟩)),(10,.pointer (some ⟨b10,0,none⟩)),(11,.int .i64 pi)]) (fun _=>[LE,.blk b10 201 [.int .i64 ci,.int .i64 ri],.blk b4 2 [.int .i64 (sx+pi*ci)],.blk b5 2 [.int .i64 (sy+pi*ri)],.blk b6 2 [.int .i64 sxx],.blk b7 2 [.int .i64 sxy],.blk b8 2 [.int .i64 syy],.blk b9 2 [.int .i64 (ss+pi)]]) ?_ ?_
  ·refine c_dvL [.blk b10 201 [.int .i64 ci,.int .i64 ri]] (0::1::2::3::4::5::6::7::8::9::10::11::12::13::14::15::16::17::[]) Sub.au ?_
   intro _
   refine z_gvx
   all_goals exact c_round () trivial trivial ⟨rfl,rfl,rfl,rfl,rfl,trivial⟩ Sub.au
  ·rintro⟨⟩ -
   subst hLE
   refine z_tas
   refine c_dvL [.blk b10 201 [.int .i64 ci,.int .i64 ri]] (0::1::2::3::4::5::6::7::8::9::10::11::12::13::14::15::16::17::18::19::20::21::22::23::24::25::26::27::28::29::[]) Sub.au ?_
   intro _
   refine z_gvx
   all_goals (refine c_rnH (S':=[_,.blk b4 2 [.int .i64 (sx+pi*ci)],.blk b5 2 [.int .i64 (sy+pi*ri)],.blk b6 2 [.int .i64 (sxx+pi*ci*ci)],.blk b7 2 [.int .i64 (sxy+pi*ci*ri)],.blk b8 2 [.int .i64 (syy+pi*ri*ri)],.blk b9 2 [.int .i64 (ss+pi)]]) Sub.au ⟨rfl,_,rfl,rfl⟩)
 ·rintro d S1 rfl
  dsimp only
  generalize sumG p (colI gw) p.length=sx at *
  generalize sumG p (rowI gw) p.length=sy at *
  generalize sumG p (fun i=>colI gw i*colI gw i) p.length=sxx at *
  generalize sumG p (fun i=>colI gw i*rowI gw i) p.length=sxy at *
  generalize sumG p (fun i=>rowI gw i*rowI gw i) p.length=syy at *
  generalize sumL p p.length=ss at *
  clear hsX hsY hsS hcl hrw hp hcc hcr hrr hsXX hsXY hsYY
  have i1:=cross_cv ss sxx sx sx
  have i2:=cross_cv ss sxy sx sy
  have i3:=cross_cv ss syy sy sy
  generalize crossN ss sxx sx sx=v1 at *
  generalize crossN ss sxy sx sy=v2 at *
  generalize crossN ss syy sy sy=v3 at *
  refine z_tas
  refine c_dvL [.blk b4 2 [.int .i64 sx],.blk b5 2 [.int .i64 sy],.blk b6 2 [.int .i64 sxx],.blk b7 2 [.int .i64 sxy],.blk b8 2 [.int .i64 syy],.blk b9 2 [.int .i64 ss]] (0::1::2::3::4::5::6::7::8::9::10::11::12::13::14::15::16::17::[]) Sub.au ?_
  intro _
  refine z_gvs
  all_goals (refine j_outMS (Ds:=[d]) (S':=[]) (S2:=[.blk b2 286 [.int .i64 v1,.int .i64 v2,.int .i64 v3]]) (by show Sub [.blk b2 286 [.int .i64 v1,.int .i64 v2,.int .i64 v3],.obj d (.deferred (some []))] _;exact Sub.au) Sub.au ?_;refine z_rk;exact⟨_,rfl,rfl⟩)
theorem edge_any(g:Grd)(A:Option Addr)(c:Nat)(w:World)(hr:RoA w (blocks []) A g.p.length c 1 (ints .i64 g.p))(hg:GrdOk g):
  Does Tryz.prog 233 [.agg (grE g A c).toArray] [] w (fun v S'=>v=.int .i64 (edgeN g)∧S'=[]):=by
 have hm4:=hg.len
 obtain⟨⟨⟨a1,a2⟩,⟨a3,a4⟩,a5,a6⟩,hl,hp,hs1,hs2⟩:=id hg
 have hsE:=sumG_in (f:=fun i=>if colI g.w i=0∨rowI g.w i=0∨colI g.w i=g.w-1∨rowI g.w i=g.h-1 then 1 else 0) (F:=1) hp (fun i hi=>by split<;>omega)
 have hsS:=sumL_in (l:=g.p) (B:=1073741824) hp
 unfold edgeN
 obtain⟨gw,gh,gx,gy,gs,p⟩:=g
 dsimp only at hr a1 a2 a3 a4 a5 a6 hl hp hs1 hs2 hsE hsS hm4 ⊢
 dsimp only[grE]
 clear hg
 obtain⟨fE,hfE⟩:∃fE:Nat→Int,(fun i=>if colI gw i=0∨rowI gw i=0∨colI gw i=gw-1∨rowI gw i=gh-1 then (1:Int)else 0)=fE:=⟨_,rfl⟩
 rw[hfE]at hsE ⊢
 refine does_ofM Tryz.func233 rfl Tryz.ntmps233 rfl ⟨by simp,.nil⟩ (fun n=>?_)
 simp only[slots]
 refine z_tas
 rename_i b1 b3
 refine lf rfl rfl rfl (S:=[]) (fun w hw ho=>plcG_any ⟨gw,gh,gx,gy,gs,p⟩ A c w) ?_
 rintro v S' ⟨gb,rfl,rfl⟩
 refine z_tas
 refine c_places (g:=⟨gw,gh,gx,gy,gs,p⟩) (A:=A) (c:=c) (S:=[.blk b3 2 [.int .i64 0],.blk b1 63 [.int .i64 gw,.int .i64 gh,.int .i64 gx,.int .i64 gy,.int .i64 gs,.slice A p.length c]]) (fun i S=>S=[.blk b3 2 [.int .i64 (sumG p fE i)],.blk b1 63 [.int .i64 gw,.int .i64 gh,.int .i64 gx,.int .i64 gy,.int .i64 gs,.slice A p.length c]]) rfl Split.au hr.h a1 (by dsimp only;omega) rfl ?_ ?_ ?_
 ·rintro i S1 hi hp0 rfl
  have h0:p.getD i 0=0:=by have:=(hp i hi).1;dsimp only at hp0;omega
  rw[show sumG p fE (i+1)=sumG p fE i+p.getD i 0*fE i from rfl,h0,Int.zero_mul,Int.add_zero]
 ·rintro lp i S1 hi hp0 rfl w1 ho
  dsimp only at hi hp0
  have e1:sumG p fE (i+1)=sumG p fE i+p.getD i 0*fE i:=rfl
  have e2:fE i=if colI gw i=0∨rowI gw i=0∨colI gw i=gw-1∨rowI gw i=gh-1 then (1:Int)else 0:=by rw[← hfE]
  have k1:=hsE i (by omega)
  have k3:=hsS i (by omega)
  have k6:=hp i hi
  rw[e2]at e1
  rw[e1]
  dsimp only
  generalize sumG p fE i=se at *
  generalize sumL p i=ss at *
  generalize p.getD i 0=pi at *
  generalize colI gw i=ci at *
  generalize rowI gw i=ri at *
  clear hsE hsS hp hs1 hs2 e1 e2 hl
  refine yields_of (N:=38) ho rfl (by simp) (fun n=>?_)
  simp only[over]
  refine z_tas
  refine c_beg ?_
  refine z_tas
  all_goals
   refine c_rnH (S':=[_,.blk b3 2 [.int .i64 (se+pi*if ci=0∨ri=0∨ci=gw-1∨ri=gh-1 then 1 else 0)],.blk b1 63 [.int .i64 gw,.int .i64 gh,.int .i64 gx,.int .i64 gy,.int .i64 gs,.slice A p.length c]]) ?_ ⟨rfl,_,rfl,rfl⟩
   first
   | (rw[if_pos (by omega),Int.mul_one];exact Sub.au)
   | (rw[if_neg (by omega),Int.mul_zero,Int.add_zero];exact Sub.au)
 ·rintro d S1 rfl
  dsimp only
  refine z_tas
  refine j_outMS (Ds:=[d]) (S':=[]) (S2:=[]) (by show Sub [.obj d (.deferred (some []))] _;exact Sub.au) Sub.au ?_
  refine z_rk
  exact⟨rfl,rfl⟩
end Go.Proofs.YthajpemlpmlefaaGreat
