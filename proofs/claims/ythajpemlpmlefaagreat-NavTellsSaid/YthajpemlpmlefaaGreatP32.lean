import Derived.Test.YthajpemlpmlefaaGreatP28
import Derived.Test.YthajpemlpmlefaaGreatP31
set_option maxHeartbeats 512000000
set_option maxRecDepth 4000
set_option linter.unusedVariables false
set_option linter.unusedSimpArgs false
namespace Go.Proofs.YthajpemlpmlefaaGreat
open Go.RowKit
theorem crossN_in{n pr a b:Int}(hn:1≤n∧n≤1073741824)(hp:0≤pr∧pr≤3969*n)(ha:0≤a∧a≤63*n)(hb:0≤b∧b≤63*n):
  (0≤n*pr∧n*pr≤4575945451784575647744)∧(0≤a*b∧a*b≤4575945451784575647744)∧(-279293545641148416≤(n*pr-a*b)*65536/n∧(n*pr-a*b)*65536/n≤279293545641148416)∧(-260112384≤crossN n pr a b∧crossN n pr a b≤260112384):=by
 have m1:=mul_in (a:=n) (b:=pr) (A:=n) (B:=3969*n) (by omega) hp
 have m2:=mul_in ha hb
 have e1:n*(3969*n)=3969*(n*n):=by rw[← Int.mul_assoc,Int.mul_comm n 3969,Int.mul_assoc]
 have e2:63*n*(63*n)=3969*(n*n):=by rw[Int.mul_assoc,← Int.mul_assoc n 63 n,Int.mul_comm n 63,Int.mul_assoc,← Int.mul_assoc];rfl
 have m3:=mul_in (a:=n) (b:=n) (A:=1073741824) (B:=1073741824) (by omega) (by omega)
 rw[e1]at m1
 rw[e2]at m2
 have hq : -(260112384*n)≤(n*pr-a*b)*65536/n∧(n*pr-a*b)*65536/n≤260112384*n:=by
  generalize n*pr=P at *
  generalize a*b=Q at *
  refine⟨Int.le_ediv_of_mul_le (by omega) ?_,Int.ediv_le_of_le_mul (by omega) ?_⟩
  ·rw[Int.neg_mul,Int.mul_assoc];omega
  ·rw[Int.mul_assoc];omega
 unfold crossN
 generalize (n*pr-a*b)*65536/n=q at *
 refine⟨by omega,by omega,by omega,Int.le_ediv_of_mul_le (by omega) (by omega),Int.ediv_le_of_le_mul (by omega) (by omega)⟩
attribute [local irreducible] OJ J HdJ Code.wpIn wpListIn Oper.wpIn bodyPost CallsIn Does
theorem divI_cv(z b mode:Int):CV Tryz.prog 160 [.agg (wideV z).toArray,.int .i64 b,.int .i64 mode] (.tuple #[.int .i64 (divV z b mode),.int .i64 0]) ((-85070591730234615865843651857942052864≤z∧z≤85070591730234615865843651857942052864)∧(0<b∧b≤9223372036854775807)∧(0≤mode∧mode≤3)∧-9223372036854775808≤divV z b mode∧divV z b mode≤9223372036854775807):=⟨fun ⟨h1,h2,h3,h4⟩ w=>by
 have:=divX_any z b mode w h1 h2 h3
 rw[divOk_of h4]at this
 exact this⟩
instance cross_cv(n pr a b:Int):CV Tryz.prog 227 [.int .i64 n,.int .i64 pr,.int .i64 a,.int .i64 b] (.int .i64 (crossN n pr a b)) ((1≤n∧n≤1073741824)∧(0≤pr∧pr≤3969*n)∧(0≤a∧a≤63*n)∧0≤b∧b≤63*n):=⟨fun ⟨c1,c2,c3,c4⟩ w=>by
 have hin:=crossN_in c1 c2 c3 c4
 have i1:=divI_cv ((n*pr + -(a*b))*65536) n 0
 rw[divV_down (by omega)]at i1
 have i2:=divI_cv ((n*pr + -(a*b))*65536/n) n 0
 rw[divV_down (by omega)]at i2
 unfold crossN at *
 rw[show n*pr-a*b=n*pr + -(a*b)from rfl]at *
 have iM:=mulW_any n pr
 have iN:=mulW_any a b
 generalize n*pr=P at *
 generalize a*b=Q at *
 generalize (P + -Q)*65536/n=q1 at *
 generalize q1/n=q2 at *
 refine does_of Tryz.func227 rfl Tryz.ntmps227 rfl ⟨by simp,.nil⟩ (fun n=>?_)
 simp only[slots]
 refine z_tas
 refine z_ro
 exact⟨rfl,rfl⟩⟩
theorem meang_any(g:Grd)(A:Option Addr)(c:Nat)(w:World)(hr:RoA w (blocks []) A g.p.length c 1 (ints .i64 g.p))(hg:GrdOk g)(hx : -4611686018427387904≤g.x∧g.x≤4611686018427387904)(hy : -4611686018427387904≤g.y∧g.y≤4611686018427387904):
  Does Tryz.prog 56 [.agg (grE g A c).toArray] [] w (fun v S'=>v=.tuple #[.agg #[.int .i64 (meanN g).1,.int .i64 (meanN g).2],.bool true]∧S'=[]):=by
 obtain⟨W,H,hW,hH,hW1,hH1,hWH⟩:=nat_sides hg
 have hm4:=hg.len
 obtain⟨⟨⟨a1,a2⟩,⟨a3,a4⟩,a5,a6⟩,hl,hp,hs1,hs2⟩:=id hg
 have hcl:=fun i=>colI_in a1 i
 have hrw:∀i,i<g.p.length→0≤rowI g.w i∧rowI g.w i≤63:=fun i hi=>by
  rw[hW,(col_at (by omega) i).2.1]
  have:=row_lt (W:=W) (H:=H) (i:=i) (by omega)
  generalize i/W=r at *
  omega
 have hsX:=sumG_in (f:=colI g.w) (F:=63) hp (fun i hi=>by have:=hcl i;omega)
 have hsY:=sumG_in (f:=rowI g.w) (F:=63) hp hrw
 have hsS:=sumL_in (l:=g.p) (B:=1073741824) hp
 have hmi:=mean_in hg
 have hX:=hsX _ (Nat.le_refl _)
 have hY:=hsY _ (Nat.le_refl _)
 have mX:=mul_in (a:=sumG g.p (colI g.w) g.p.length) (b:=g.st) (A:=68719476736) (B:=4096) (by omega) (by omega)
 have mY:=mul_in (a:=sumG g.p (rowI g.w) g.p.length) (b:=g.st) (A:=68719476736) (B:=4096) (by omega) (by omega)
 have mW:=mul_in (a:=g.w-1) (b:=g.st) (A:=63) (B:=4096) (by omega) (by omega)
 have mH:=mul_in (a:=g.h-1) (b:=g.st) (A:=63) (B:=4096) (by omega) (by omega)
 have i1:=muldiv_any (sumG g.p (colI g.w) g.p.length) g.st (sumL g.p g.p.length) 2
 have i2:=muldiv_any (sumG g.p (rowI g.w) g.p.length) g.st (sumL g.p g.p.length) 2
 obtain⟨gw,gh,gx,gy,gs,p⟩:=g
 dsimp only at hr hx hy a1 a2 a3 a4 a5 a6 hl hp hs1 hs2 hcl hrw hsX hsY hsS hX hY mX mY mW mH i1 i2 hm4 hW hH hWH
 unfold meanN at *
 dsimp only at hmi ⊢
 dsimp only[grE]
 clear hg
 refine does_ofM Tryz.func56 rfl Tryz.ntmps56 rfl ⟨by simp,.nil⟩ (fun n=>?_)
 simp only[slots]
 refine z_tas
 rename_i b1 b2 b4 b5 b6
 refine lf rfl rfl rfl (S:=[]) (fun w hw ho=>plcG_any ⟨gw,gh,gx,gy,gs,p⟩ A c w) ?_
 rintro v S' ⟨gb,rfl,rfl⟩
 refine z_tas
 refine c_places (g:=⟨gw,gh,gx,gy,gs,p⟩) (A:=A) (c:=c) (S:=[.blk b4 2 [.int .i64 0],.blk b5 2 [.int .i64 0],.blk b6 2 [.int .i64 0]]) (fun i S=>S=[.blk b4 2 [.int .i64 (sumG p (colI gw) i)],.blk b5 2 [.int .i64 (sumG p (rowI gw) i)],.blk b6 2 [.int .i64 (sumL p i)]]) rfl Split.au hr.h a1 (by dsimp only;omega) rfl ?_ ?_ ?_
 ·rintro i S1 hi hp0 rfl
  have h0:p.getD i 0=0:=by have:=(hp i hi).1;dsimp only at hp0;omega
  have e1:sumG p (colI gw) (i+1)=sumG p (colI gw) i+p.getD i 0*colI gw i:=rfl
  have e2:sumG p (rowI gw) (i+1)=sumG p (rowI gw) i+p.getD i 0*rowI gw i:=rfl
  have e3:sumL p (i+1)=sumL p i+p.getD i 0:=rfl
  rw[e1,e2,e3,h0,Int.zero_mul,Int.zero_mul,Int.add_zero,Int.add_zero,Int.add_zero]
 ·rintro lp i S1 hi hp0 rfl w1 ho
  dsimp only at hi hp0
  have e1:sumG p (colI gw) (i+1)=sumG p (colI gw) i+p.getD i 0*colI gw i:=rfl
  have e2:sumG p (rowI gw) (i+1)=sumG p (rowI gw) i+p.getD i 0*rowI gw i:=rfl
  have e3:sumL p (i+1)=sumL p i+p.getD i 0:=rfl
  have k1:=hsX i (by omega)
  have k2:=hsY i (by omega)
  have k3:=hsS i (by omega)
  have k4:=hcl i
  have k5:=hrw i hi
  have k6:=hp i hi
  have q1:=mul_in (a:=p.getD i 0) (b:=colI gw i) (A:=1073741824) (B:=64) (by omega) (by omega)
  have q2:=mul_in (a:=p.getD i 0) (b:=rowI gw i) (A:=1073741824) (B:=64) (by omega) (by omega)
  rw[e1,e2,e3]
  dsimp only
  generalize sumG p (colI gw) i=sx at *
  generalize sumG p (rowI gw) i=sy at *
  generalize sumL p i=ss at *
  generalize p.getD i 0=pi at *
  generalize colI gw i=ci at *
  generalize rowI gw i=ri at *
  clear hsX hsY hsS hcl hrw hp hX hY hmi mX mY i1 i2 hs1 hs2 e1 e2 e3 hl
  refine yields_of (N:=60) ho rfl (by simp) (fun n=>?_)
  simp only[over]
  refine z_tas
  refine c_beg ?_
  refine z_tas
  rename_i b7
  refine c_dvL [.blk b7 201 [.int .i64 ci,.int .i64 ri]] (0::1::2::3::4::5::6::7::8::9::10::11::12::13::14::15::16::17::[]) Sub.au ?_
  intro _
  refine z_gvx
  all_goals (refine c_rnH (S':=[_,.blk b4 2 [.int .i64 (sx+pi*ci)],.blk b5 2 [.int .i64 (sy+pi*ri)],.blk b6 2 [.int .i64 (ss+pi)]]) Sub.au ⟨rfl,_,rfl,rfl⟩)
 ·rintro d S1 rfl
  dsimp only
  generalize sumG p (colI gw) p.length=sx at *
  generalize sumG p (rowI gw) p.length=sy at *
  generalize sumL p p.length=ss at *
  generalize divV (sx*gs) ss 2=dx at *
  generalize divV (sy*gs) ss 2=dy at *
  clear hsX hsY hsS hcl hrw hp
  refine z_tas
  refine j_outMS (Ds:=[d]) (S':=[]) (S2:=[.blk b2 33 [.int .i64 (gx+dx),.int .i64 (gy+dy)]]) (by show Sub [.blk b2 33 [.int .i64 (gx+dx),.int .i64 (gy+dy)],.obj d (.deferred (some []))] _;exact Sub.au) Sub.au ?_
  refine z_rk
  exact⟨rfl,rfl⟩
end Go.Proofs.YthajpemlpmlefaaGreat
