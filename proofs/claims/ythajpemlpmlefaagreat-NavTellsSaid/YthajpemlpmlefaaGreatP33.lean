import Derived.Test.YthajpemlpmlefaaGreatP32
set_option maxHeartbeats 512000000
set_option maxRecDepth 4000
set_option linter.unusedVariables false
set_option linter.unusedSimpArgs false
namespace Go.Proofs.YthajpemlpmlefaaGreat
open Go.RowKit
attribute [local irreducible] OJ J HdJ Code.wpIn wpListIn Oper.wpIn bodyPost CallsIn Does
theorem gsum_any(g:Grd)(A:Option Addr)(c:Nat)(w:World)(hr:RoA w (blocks []) A g.p.length c 1 (ints .i64 g.p))(hp:Pos30 g.p)(hm:g.p.length≤4096):
  Does Tryz.prog 133 [.agg (grE g A c).toArray] [] w (fun v S'=>v=.int .i64 (sumL g.p g.p.length)∧S'=[]):=by
 obtain⟨gw,gh,gx,gy,gs,p⟩:=g
 dsimp only at hr hp hm ⊢
 dsimp only[grE]
 have hsi:=fun n hn=>sumL_in (l:=p) (B:=1073741824) hp n hn
 refine does_of Tryz.func133 rfl Tryz.ntmps133 rfl ⟨by simp,.nil⟩ (fun n=>?_)
 simp only[slots]
 refine z_tas
 refine c_loop (X:=Nat) (fun i=>i≤p.length) (fun i=>[(3,.int .i64 (sumL p i)),(7,.slice A p.length c),(8,.int .i64 p.length),(9,.int .i64 i)]) (fun _=>[]) (fun i=>p.length-i) 0 (Nat.zero_le _) ⟨rfl,rfl,rfl,rfl,trivial⟩ (.nil _) ?_
 intro i hi
 rcases Nat.lt_or_ge i p.length with h|h
 ·obtain⟨bA,oA,rfl,hRA⟩:=hr.at_ (by omega:0<p.length)
  have e:sumL p (i+1)=sumL p i+p.getD i 0:=rfl
  have hs1:=hsi i hi
  have hpi:=hp i h
  clear hsi
  generalize sumL p i=s at *
  refine z_tas
  exact c_round (i+1) h (by show p.length-(i+1)<p.length-i;omega) ⟨by rw[e];rfl,rfl,rfl,by simp[look],trivial⟩ (.nil _)
 ·obtain rfl:i=p.length:=by omega
  refine z_tas
  exact j_out1 rfl rfl (.nil _) ⟨rfl,rfl⟩
theorem normal_any(g:Grd)(A:Option Addr)(c:Nat)(w:World)(hr:RoA w (blocks []) A g.p.length c 1 (ints .i64 g.p))(hp:Pos30 g.p)(hn:0<g.p.length∧g.p.length≤4096)(hz:0<sumL g.p g.p.length):
  Does Tryz.prog 145 [.agg (grE g A c).toArray] [] w
   (fun v S'=>∃u,v=.tuple #[u,.int .i64 0]∧GrR (normG g) u S'):=by
 have hG:=gsum_any g A c
 obtain⟨gw,gh,gx,gy,gs,p⟩:=g
 unfold normG
 dsimp only at hr hp hn hz hG ⊢
 dsimp only[grE]at *
 have hsN:=sumL_in (l:=p) (B:=1073741824) hp p.length (Nat.le_refl _)
 have hge:=fun i (hi:i<p.length)=>sumL_ge (l:=p) (B:=1073741824) hp p.length (Nat.le_refl _) hi
 have hNL:normL p=tab (fun i=>p.getD i 0*1073741824/sumL p p.length) p.length:=if_neg (by omega)
 have hr0:=hr
 obtain⟨bA,oA,rfl,hRA⟩:=hr.at_ hn.1
 refine does_of Tryz.func145 rfl Tryz.ntmps145 rfl ⟨by simp,.nil⟩ (fun n=>?_)
 simp only[slots]
 refine z_tas
 refine lfv rfl rfl rfl (fun w hw=>hG w ⟨hr0.h.go hw (Split.nil _)⟩ hp hn.2) ?_
 refine z_tas
 rename_i b1 b2 _
 refine lf rfl rfl rfl (S:=[]) (fun w' hw' ho=>clone_any (some ⟨bA,oA,none⟩) c p w' ⟨hr0.h.go hw' (Split.nil _)⟩ (by omega)) ?_
 rintro v S' ⟨A2,c2,rfl,rfl⟩
 generalize sumL p p.length=z at *
 obtain⟨g,hg⟩:∃g:Nat→Int,(fun i=>p.getD i 0*1073741824/z)=g:=⟨_,rfl⟩
 rw[hg]at hNL
 refine z_tas
 refine c_loop (X:=Nat) (fun i=>i≤p.length) (fun i=>[(1,.pointer (some ⟨b1,0,none⟩)),(2,.pointer (some ⟨b2,0,none⟩)),(4,.int .i64 z),(17,.slice A2 p.length c2),(18,.int .i64 p.length),(19,.int .i64 i)])
  (fun i=>[.row (.slice A2 p.length c2) 2 1 p.length (ints .i64 (mixL g p i)),.blk b2 63 grN,.blk b1 63 [.int .i64 gw,.int .i64 gh,.int .i64 gx,.int .i64 gy,.int .i64 gs,.slice A2 p.length c2]]) (fun i=>p.length-i) 0 (Nat.zero_le _) ⟨rfl,rfl,rfl,rfl,rfl,rfl,trivial⟩ (by show Sub [.row (.slice A2 p.length c2) 2 1 p.length (ints .i64 p),_,_] _;exact Sub.au) ?_
 intro i hi
 rcases Nat.lt_or_ge i p.length with h|h
 ·have hml:=mix_len g hi
  have hmg:=mix_get g h
  have hms:=mix_set g h
  have hpi:=hp i h
  have hgi:=hge i h
  have hgz:g i=p.getD i 0*1073741824/z:=by rw[← hg]
  have iD:=muldiv_any (p.getD i 0) 1073741824 z 0
  rw[divV_down hz,← hgz]at iD
  obtain⟨R,hR⟩:∃R,mixL g p i=R:=⟨_,rfl⟩
  rw[hR]at hml hmg hms ⊢
  have iE:Elem (ints .i64 R) i (.int .i64 (p.getD i 0)) True:=⟨fun _=>by rw[← hmg];exact(inferInstance:Elem (ints .i64 R) i (.int .i64 (R.getD i 0)) (i<R.length)).h (by omega)⟩
  refine j_opn (A:=A2) (m:=p.length) (cc:=c2) (by omega) (fun g2 hg2=>?_)
  subst hg2
  clear hge hG
  generalize p.getD i 0=pi at *
  refine z_tas
  refine c_dvL [] (0::1::2::3::4::5::6::7::8::9::10::[]) (.nil _) ?_;intro _
  refine z_govG
  all_goals
   refine c_round (i+1) h (by show p.length-(i+1)<p.length-i;omega) ⟨rfl,rfl,rfl,rfl,rfl,by simp[look],trivial⟩ ?_
   rw[← hms]
   exact Sub.au
 ·obtain rfl:i=p.length:=by omega
  rw[mix_all]
  refine z_tas
  refine j_outK (S':=[.row (.slice A2 p.length c2) 2 1 p.length (ints .i64 (tab g p.length))]) Sub.au ?_
  refine z_rk
  refine⟨_,rfl,A2,c2,?_,?_⟩
  ·dsimp only[grE]
   rw[hNL,tab_len]
  ·dsimp only
   rw[hNL,tab_len]
instance clamp_cv(i n:Int):CV Tryz.prog 199 [.int .i64 i,.int .i64 n] (.int .i64 (clampN i n)) ((-1000000≤i∧i≤1000000)∧0≤n∧n≤1000000):=⟨fun hc w=>by
 refine does_of Tryz.func199 rfl Tryz.ntmps199 rfl ⟨by simp,.nil⟩ (fun n=>?_)
 simp only[slots]
 unfold clampN
 refine z_tas
 refine z_ro
 exact⟨rfl,rfl⟩⟩
def atXG(W:Int)(x y d:Int):Int:=y*W+clampN (x+d) W
def atYG(W H:Int)(x y d:Int):Int:=clampN (y+d) H*W+x
theorem clamp_in(i:Int){n:Int}(h:1≤n):0≤clampN i n∧clampN i n≤n-1:=by unfold clampN;omega
theorem atX_any(gb:Nat)(g:Grd)(A:Option Addr)(c:Nat)(x y d:Int)(w:World)(hown:Own [.blk gb 63 (grE g A c)] w)(hx:0≤x∧x≤64)(hy:0≤y∧y≤64)(hd : -1≤d∧d≤1)(hw:1≤g.w∧g.w≤64):
  Does Tryz.prog 198 [.int .i64 x,.int .i64 y,.int .i64 d,.pointer (some ⟨gb,0,none⟩)] [.blk gb 63 (grE g A c)] w (fun v S'=>v=.int .i64 (atXG g.w x y d)∧S'=[.blk gb 63 (grE g A c)]):=by
 obtain⟨gw,gh,gx,gy,gs,p⟩:=g
 dsimp only at hw ⊢
 dsimp only[grE]at *
 have hm:=mul_in (a:=y) (b:=gw) (A:=64) (B:=64) (by omega) (by omega)
 have hc:=clamp_in (x+d) hw.1
 have iC:=clamp_cv (x+d) gw
 unfold atXG
 generalize clampN (x+d) gw=e at *
 refine does_of Tryz.func198 rfl Tryz.ntmps198 rfl hown (fun n=>?_)
 simp only[slots]
 refine z_tas
 refine c_dv (0::1::2::3::4::5::6::7::8::9::10::11::[]) ?_;intro _
 refine z_gvs
 all_goals exact j_out1 rfl rfl Sub.au ⟨rfl,rfl⟩
theorem atY_any(gb:Nat)(g:Grd)(A:Option Addr)(c:Nat)(x y d:Int)(w:World)(hown:Own [.blk gb 63 (grE g A c)] w)(hx:0≤x∧x≤64)(hy:0≤y∧y≤64)(hd : -1≤d∧d≤1)(hw:1≤g.w∧g.w≤64)(hh:1≤g.h∧g.h≤64):
  Does Tryz.prog 200 [.int .i64 x,.int .i64 y,.int .i64 d,.pointer (some ⟨gb,0,none⟩)] [.blk gb 63 (grE g A c)] w (fun v S'=>v=.int .i64 (atYG g.w g.h x y d)∧S'=[.blk gb 63 (grE g A c)]):=by
 obtain⟨gw,gh,gx,gy,gs,p⟩:=g
 dsimp only at hw hh ⊢
 dsimp only[grE]at *
 have hc:=clamp_in (y+d) hh.1
 have hm:=mul_in (a:=clampN (y+d) gh) (b:=gw) (A:=64) (B:=64) (by omega) (by omega)
 have iC:=clamp_cv (y+d) gh
 unfold atYG
 generalize clampN (y+d) gh=e at *
 refine does_of Tryz.func200 rfl Tryz.ntmps200 rfl hown (fun n=>?_)
 simp only[slots]
 refine z_tas
 refine c_dv (0::1::2::3::4::5::6::7::8::9::10::11::[]) ?_;intro _
 refine z_gvs
 all_goals exact j_out1 rfl rfl Sub.au ⟨rfl,rfl⟩
def passF(q W:Int)(at':Int→Int→Int→Int)(p:List Int)(k:Nat):Int:=(q*p.getD (at' (colI W k) (rowI W k) (-1)).toNat 0+(256-2*q)*p.getD (at' (colI W k) (rowI W k) 0).toNat 0+q*p.getD (at' (colI W k) (rowI W k) 1).toNat 0)/256
def passG(q W:Int)(at':Int→Int→Int→Int)(p:List Int):List Int:=tab (passF q W at' p) p.length
theorem passG_X{q:Int}{W H:Nat}{p:List Int}(hW:0<W)(hl:p.length=W*H):passG q W (atXG W) p=passX q W p:=by
 unfold passG passX
 refine tab_congr (fun i hi=>?_)
 obtain⟨e1,e2,e3,e4⟩:=col_at hW i
 have hc:clampN ((i%W:Nat)+0:Int) W=((i%W:Nat):Int):=by unfold clampN;omega
 unfold passF atXG
 rw[e1,e2,hc,show ((i/W:Nat):Int)*(W:Int)+((i%W:Nat):Int)=(i:Int) by rw[← Int.natCast_mul,← Int.natCast_add,e3],Int.toNat_natCast]
 rfl
theorem passG_Y{q:Int}{W H:Nat}{p:List Int}(hW:0<W)(hl:p.length=W*H):passG q W (atYG W H) p=passY q W H p:=by
 unfold passG passY
 refine tab_congr (fun i hi=>?_)
 obtain⟨e1,e2,e3,e4⟩:=col_at hW i
 have hr:=row_lt (W:=W) (H:=H) (i:=i) (by omega)
 have hc:clampN ((i/W:Nat)+0:Int) H=((i/W:Nat):Int):=by
  generalize i/W=r at *
  unfold clampN
  omega
 unfold passF atYG
 rw[e1,e2,hc,show ((i/W:Nat):Int)*(W:Int)+((i%W:Nat):Int)=(i:Int) by rw[← Int.natCast_mul,← Int.natCast_add,e3],Int.toNat_natCast]
 rfl
theorem pass_any(AT:FuncId)[hCl:Cl Tryz.prog AT](at':Int→Int→Int→Int)(gb qb:Nat)(g:Grd)(Ag:Option Addr)(cg:Nat)(q:Int)(A:Option Addr)(c:Nat)(p:List Int)(w:World)(W H:Nat)(hW:g.w=W)(hH:g.h=H)(hW1:1≤W∧W≤64)(hH1:1≤H∧H≤64)(hp:Pos30 p)(hl:p.length=W*H)(hq:0≤q∧q≤85)
  (hown:Own [.blk gb 63 (grE g Ag cg),.blk qb 2 [.int .i64 q]] w) (hr:RoA w (blocks [.blk gb 63 (grE g Ag cg),.blk qb 2 [.int .i64 q]]) A p.length c 1 (ints .i64 p))
  (hat:∀(x y:Nat) (d:Int),x<W→y<H→(-1≤d∧d≤1)→∃n:Nat,at' x y d=n∧n<W*H∧∀w,Own [.blk gb 63 (grE g Ag cg)] w→Does Tryz.prog AT [.int .i64 x,.int .i64 y,.int .i64 d,.pointer (some ⟨gb,0,none⟩)] [.blk gb 63 (grE g Ag cg)] w (fun v S'=>v=.int .i64 n∧S'=[.blk gb 63 (grE g Ag cg)])) :
  Does Tryz.prog 197 [.slice A p.length c,.func (.func AT) #[] #[.pointer (some ⟨gb,0,none⟩)],.pointer (some ⟨gb,0,none⟩),.pointer (some ⟨qb,0,none⟩)] [.blk gb 63 (grE g Ag cg),.blk qb 2 [.int .i64 q]] w
   (fun v S'=>∃A' c',v=.slice A' p.length c'∧S'=[.row (.slice A' p.length c') 2 1 p.length (ints .i64 (passG q W at' p)),.blk gb 63 (grE g Ag cg),.blk qb 2 [.int .i64 q]]):=by
 obtain⟨gw,gh,gx,gy,gs,gp⟩:=g
 dsimp only at hW hH ⊢
 subst hW hH
 dsimp only[grE]at *
 have hWH:W*H≤4096:=Nat.mul_le_mul hW1.2 hH1.2
 have hWH0:0<W*H:=Nat.mul_pos (by omega) (by omega)
 obtain⟨bA,oA,rfl,hRA⟩:=hr.at_ (by omega:0<p.length)
 unfold passG
 obtain⟨N,hN⟩:∃N:Nat,p.length=N:=⟨_,rfl⟩
 have hlen:=fun i (hi:i≤N)=>prt_len (passF q W at' p) hi
 have hset:=fun i (hi:i<N)=>prt_set (passF q W at' p) hi
 rw[hN]
 refine does_of Tryz.func197 rfl Tryz.ntmps197 rfl hown (fun n=>?_)
 simp only[slots]
 refine z_tas
 rename_i bo
 refine c_loop (X:=Nat) (fun y=>y≤H) (fun y=>[(0,.slice (some ⟨bA,oA,none⟩) N c),(1,.func (.func AT) #[] #[.pointer (some ⟨gb,0,none⟩)]),(2,.pointer (some ⟨gb,0,none⟩)),(3,.pointer (some ⟨qb,0,none⟩)),(7,.slice (some ⟨bo,0,none⟩) N N),(15,.int .i64 H),(16,.int .i64 y)])
  (fun y=>[.row (.slice (some ⟨bo,0,none⟩) N N) 2 1 N (ints .i64 (prt (passF q W at' p) N (y*W))),.blk gb 63 [.int .i64 W,.int .i64 H,.int .i64 gx,.int .i64 gy,.int .i64 gs,.slice Ag gp.length cg],.blk qb 2 [.int .i64 q]]) (fun y=>H-y) 0 (Nat.zero_le _) ⟨rfl,rfl,rfl,rfl,rfl,rfl,rfl,trivial⟩ (by rw[Nat.zero_mul];show Sub [.row (.slice (some ⟨bo,0,none⟩) N N) 2 1 N (ints .i64 (List.replicate N 0)),_,_] _;exact Sub.au) ?_
 intro y hy
 rcases Nat.lt_or_ge y H with h|h
 ·have hyW:y*W+W≤N:=by have:=Nat.mul_le_mul_right W (show y+1≤H from h);rw[Nat.add_mul,Nat.one_mul]at this;rw[← hN,hl,Nat.mul_comm W H];exact this
  refine z_tas
  refine c_loop (X:=Nat) (fun x=>x≤W) (fun x=>[(0,.slice (some ⟨bA,oA,none⟩) N c),(1,.func (.func AT) #[] #[.pointer (some ⟨gb,0,none⟩)]),(2,.pointer (some ⟨gb,0,none⟩)),(3,.pointer (some ⟨qb,0,none⟩)),(7,.slice (some ⟨bo,0,none⟩) N N),(8,.int .i64 y),(15,.int .i64 H),(16,.int .i64 y),(20,.int .i64 W),(21,.int .i64 x)])
   (fun x=>[.row (.slice (some ⟨bo,0,none⟩) N N) 2 1 N (ints .i64 (prt (passF q W at' p) N (y*W+x))),.blk gb 63 [.int .i64 W,.int .i64 H,.int .i64 gx,.int .i64 gy,.int .i64 gs,.slice Ag gp.length cg],.blk qb 2 [.int .i64 q]]) (fun x=>W-x) 0 (Nat.zero_le _) ⟨rfl,rfl,rfl,rfl,rfl,rfl,rfl,rfl,rfl,rfl,trivial⟩ Sub.au ?_
  intro x hx
  rcases Nat.lt_or_ge x W with h2|h2
  ·obtain⟨n1,v1,b1,t1⟩:=hat x y (-1) h2 h (by decide)
   obtain⟨n2,v2,b2,t2⟩:=hat x y 0 h2 h (by decide)
   obtain⟨n3,v3,b3,t3⟩:=hat x y 1 h2 h (by decide)
   obtain⟨c1,c2⟩:=at_col (r:=y) h2
   have hF:passF q W at' p (y*W+x)=(q*p.getD n1 0+(256-2*q)*p.getD n2 0+q*p.getD n3 0)/256:=by
    unfold passF
    rw[c1,c2,v1,v2,v3,Int.toNat_natCast,Int.toNat_natCast,Int.toNat_natCast]
   have hs:=hset (y*W+x) (by omega)
   have hle:=hlen (y*W+x) (by omega)
   rw[hF]at hs
   have p1:=hp n1 (by omega)
   have p2:=hp n2 (by omega)
   have p3:=hp n3 (by omega)
   have m1:=mul_in hq p1
   have m2:=mul_in (a:=256-2*q) (b:=p.getD n2 0) (A:=256) (by omega) p2
   have m3:=mul_in hq p3
   have iM:∀w0 W' H' t u a b,MS Tryz.prog w0 W' H' (.binOp .mul t a b u) [.int .i64 (y:Int),.int .i64 (W:Int)] (.int .i64 ((y*W:Nat):Int)) True:=fun _ _ _ _ _ _ _=>msM inferInstance (by show (-9223372036854775808:Int)≤_∧_≤(9223372036854775807:Int);rw[← Int.natCast_mul];omega) (by rw[Int.natCast_mul])
   have iA:∀w0 W' H' t u a b,MS Tryz.prog w0 W' H' (.binOp .add t a b u) [.int .i64 ((y*W:Nat):Int),.int .i64 (x:Int)] (.int .i64 ((y*W+x:Nat):Int)) True:=fun _ _ _ _ _ _ _=>msM inferInstance (by show (-9223372036854775808:Int)≤_∧_≤(9223372036854775807:Int);omega) (by rw[Int.natCast_add])
   generalize hk:y*W+x=k at *
   generalize hpr:prt (passF q W at' p) N k=R at *
   clear hset hlen hF v1 v2 v3 c1 c2 hat
   subst hN
   refine z_tas
   refine c_dv (0::1::2::3::4::5::6::7::8::9::10::11::12::13::14::15::16::17::18::19::20::21::22::23::24::25::26::27::28::29::30::31::[]) ?_;intro _
   refine z_gvx
   all_goals refine lb rfl rfl rfl rfl (S:=[.blk gb 63 [.int .i64 W,.int .i64 H,.int .i64 gx,.int .i64 gy,.int .i64 gs,.slice Ag gp.length cg]]) (fun w hw ho=>t1 w ho) ?_
   all_goals rintro v S' ⟨rfl,rfl⟩
   all_goals refine z_gvs
   all_goals refine lb rfl rfl rfl rfl (S:=[.blk gb 63 [.int .i64 W,.int .i64 H,.int .i64 gx,.int .i64 gy,.int .i64 gs,.slice Ag gp.length cg]]) (fun w hw ho=>t2 w ho) ?_
   all_goals rintro v S' ⟨rfl,rfl⟩
   all_goals refine z_gvs
   all_goals refine lb rfl rfl rfl rfl (S:=[.blk gb 63 [.int .i64 W,.int .i64 H,.int .i64 gx,.int .i64 gy,.int .i64 gs,.slice Ag gp.length cg]]) (fun w hw ho=>t3 w ho) ?_
   all_goals rintro v S' ⟨rfl,rfl⟩
   all_goals refine z_gvs
   all_goals
    refine c_round (x+1) h2 (by show W-(x+1)<W-x;omega) ⟨rfl,rfl,rfl,rfl,rfl,rfl,rfl,rfl,rfl,by simp[look],trivial⟩ ?_
    rw[show y*W+(x+1)=k+1 by omega,← hs]
    exact Sub.au
  ·obtain rfl:x=W:=by omega
   refine z_tas
   refine c_round (y+1) h (by show H-(y+1)<H-y;omega) ⟨rfl,rfl,rfl,rfl,rfl,rfl,by simp[look],trivial⟩ ?_
   rw[show (y+1)*x=y*x+x by rw[Nat.add_mul,Nat.one_mul]]
   exact Sub.au
 ·obtain rfl:y=H:=by omega
  rw[show y*W=N by rw[← hN,hl,Nat.mul_comm],prt_all]
  refine z_tas
  exact j_out1 rfl rfl Sub.au ⟨_,_,rfl,rfl⟩
theorem spread_any(g:Grd)(A:Option Addr)(c:Nat)(q:Int)(w:World)(hr:RoA w (blocks []) A g.p.length c 1 (ints .i64 g.p))(hg:GrdOk g)(hq:0≤q∧q≤85):
  Does Tryz.prog 143 [.agg (grE g A c).toArray,.int .i64 q] [] w
   (fun v S'=>∃u,v=.tuple #[u,.int .i64 0]∧GrR (spreadG g q) u S'):=by
 obtain⟨W,H,hW,hH,hW1,hH1,hWH⟩:=nat_sides hg
 have hm4:=hg.len
 obtain⟨-,hl,hp,hs1,hs2⟩:=hg
 unfold spreadG
 have hx:=passX_pos (q:=q) (W:=g.w) hq hp
 have lx:=passX_len q g.w g.p
 have ly:=passY_len q g.w g.h (passX q g.w g.p)
 have e0:passX q g.w g.p=passG q W (atXG W) g.p:=by rw[hW,passG_X (by omega) hWH]
 have e1:passY q g.w g.h (passX q g.w g.p)=passG q W (atYG W H) (passG q W (atXG W) g.p):=by rw[← e0,hW,hH,passG_Y (H:=H) (by omega) (by rw[passX_len];exact hWH)]
 rw[e1]at ly ⊢
 rw[e0]at hx lx ly
 have hWb:1≤g.w∧g.w≤64:=by omega
 have hHb:1≤g.h∧g.h≤64:=by omega
 have hX:∀gb,∀(x y:Nat) (d:Int),x<W→y<H→(-1≤d∧d≤1)→∃n:Nat,atXG W x y d=n∧n<W*H∧∀w,Own [.blk gb 63 (grE g A c)] w→Does Tryz.prog 198 [.int .i64 x,.int .i64 y,.int .i64 d,.pointer (some ⟨gb,0,none⟩)] [.blk gb 63 (grE g A c)] w (fun v S'=>v=.int .i64 n∧S'=[.blk gb 63 (grE g A c)]):=fun gb x y d h1 h2 h3=>by
  have hc:=clamp_in ((x:Int)+d) (n:=(W:Int)) (by omega)
  obtain⟨e,he⟩:∃e:Nat,clampN ((x:Int)+d) W=e:=⟨(clampN ((x:Int)+d) W).toNat,by omega⟩
  refine⟨y*W+e,by unfold atXG;rw[he,Int.natCast_add,Int.natCast_mul],by have:=cell_lt (W:=W) (H:=H) (r:=y) (c:=e) h2 (by omega);omega,fun w ho=>?_⟩
  have:=atX_any gb g A c x y d w ho (by omega) (by omega) h3 hWb
  unfold atXG at this
  rw[hW,he]at this
  rw[Int.natCast_add,Int.natCast_mul]
  exact this
 have hY:∀gb,∀(x y:Nat) (d:Int),x<W→y<H→(-1≤d∧d≤1)→∃n:Nat,atYG W H x y d=n∧n<W*H∧∀w,Own [.blk gb 63 (grE g A c)] w→Does Tryz.prog 200 [.int .i64 x,.int .i64 y,.int .i64 d,.pointer (some ⟨gb,0,none⟩)] [.blk gb 63 (grE g A c)] w (fun v S'=>v=.int .i64 n∧S'=[.blk gb 63 (grE g A c)]):=fun gb x y d h1 h2 h3=>by
  have hc:=clamp_in ((y:Int)+d) (n:=(H:Int)) (by omega)
  obtain⟨e,he⟩:∃e:Nat,clampN ((y:Int)+d) H=e:=⟨(clampN ((y:Int)+d) H).toNat,by omega⟩
  refine⟨e*W+x,by unfold atYG;rw[he,Int.natCast_add,Int.natCast_mul],by have:=cell_lt (W:=W) (H:=H) (r:=e) (c:=x) (by omega) h1;omega,fun w ho=>?_⟩
  have:=atY_any gb g A c x y d w ho (by omega) (by omega) h3 hWb hHb
  unfold atYG at this
  rw[hW,hH,he]at this
  rw[Int.natCast_add,Int.natCast_mul]
  exact this
 have t1:=fun gb qb w ho hr=>pass_any 198 (atXG W) gb qb g A c q A c g.p w W H hW hH hW1 hH1 hp hWH hq ho hr (hX gb)
 have t2:=fun gb qb A2 c2 w ho hr=>pass_any 200 (atYG W H) gb qb g A c q A2 c2 (passG q W (atXG W) g.p) w W H hW hH hW1 hH1 hx.1 (by rw[lx];exact hWH) hq ho hr (hY gb)
 clear hX hY
 generalize passG q W (atXG W) g.p=p1 at *
 generalize passG q W (atYG W H) p1=p2 at *
 obtain⟨gw,gh,gx,gy,gs,p⟩:=g
 dsimp only at hW hH hr lx ly t1 t2 ⊢
 dsimp only[grE]at *
 rw[lx]at t2
 rw[lx]at ly
 refine does_of Tryz.func143 rfl Tryz.ntmps143 rfl ⟨by simp,.nil⟩ (fun _=>?_)
 simp only[slots]
 refine z_tas
 all_goals try (exfalso;omega)
 rename_i b2 b3 b4 _ _
 refine lb rfl rfl rfl rfl (S:=[.blk b2 63 [.int .i64 gw,.int .i64 gh,.int .i64 gx,.int .i64 gy,.int .i64 gs,.slice A p.length c],.blk b3 2 [.int .i64 q]]) (fun w hw ho=>t1 b2 b3 w ho ⟨hr.h.go hw Split.au⟩) ?_
 rintro v S' ⟨A1,c1,rfl,rfl⟩
 refine z_tas
 refine lb rfl rfl rfl rfl (S:=[.blk b2 63 [.int .i64 gw,.int .i64 gh,.int .i64 gx,.int .i64 gy,.int .i64 gs,.slice A p.length c],.blk b3 2 [.int .i64 q]]) (fun w hw ho=>t2 b2 b3 A1 c1 w ho ⟨Ro.row hw Split.au (by refine z_hs)⟩) ?_
 rintro v S' ⟨A2,c2,rfl,rfl⟩
 refine z_tas
 refine j_outK (S':=[.row (.slice A2 p.length c2) 2 1 p.length (ints .i64 p2)]) Sub.au ?_
 refine z_rk
 refine⟨_,rfl,A2,c2,?_,?_⟩
 ·dsimp only[grE]
  rw[ly]
 ·dsimp only
  rw[ly]
theorem powN_in{n:Noi}(h:NoiOk n)(d:Int):0≤powN n d∧powN n d≤2621440:=by
 unfold powN
 split
 ·decide
 obtain⟨⟨h1,h2⟩,-⟩:=h
 have hs:0<n.sig*n.sig:=Int.mul_pos (by omega) (by omega)
 have hd:0≤d*d:=by
  rcases Int.lt_or_le d 0 with h|h
  ·exact Int.le_of_lt (Int.mul_pos_of_neg_of_neg h h)
  ·exact Int.mul_nonneg h h
 rw[divV_near hs]
 have:0≤(2*(d*d*47274)+n.sig*n.sig)/(2*(n.sig*n.sig)):=Int.ediv_nonneg (by omega) (by omega)
 omega
theorem pow_div{s d:Int}(h:1≤s)(h1 : -32*s≤d)(h2:d≤32*s):0≤divV (d*d*47274) (s*s) 2∧divV (d*d*47274) (s*s) 2≤48408577:=by
 have hs:0<s*s:=Int.mul_pos (by omega) (by omega)
 have hd:0≤d*d:=by
  rcases Int.lt_or_le d 0 with h|h
  ·exact Int.le_of_lt (Int.mul_pos_of_neg_of_neg h h)
  ·exact Int.mul_nonneg h h
 have hm:d*d≤32*s*(32*s):=by
  rcases Int.lt_or_le d 0 with h3|h3
  ·have:=mul_in (a:=-d) (b:=-d) (A:=32*s) (B:=32*s) (by omega) (by omega)
   rw[Int.neg_mul_neg]at this
   exact this.2
  ·exact(mul_in (a:=d) (b:=d) (A:=32*s) (B:=32*s) (by omega) (by omega)).2
 rw[show 32*s*(32*s)=1024*(s*s) by rw[Int.mul_assoc,← Int.mul_assoc s 32 s,Int.mul_comm s 32,Int.mul_assoc,← Int.mul_assoc 32 32];rfl]at hm
 rw[divV_near hs]
 generalize d*d=D at *
 generalize s*s=S at *
 exact⟨Int.ediv_nonneg (by omega) (by omega),Int.ediv_le_of_le_mul (by omega) (by omega)⟩
instance ncheck_cv(n:Noi):CV Tryz.prog 27 [.agg (noiE n).toArray] (.int .i64 0) (NoiOk n):=⟨fun hc w=>by
 obtain⟨⟨a1,a2⟩,⟨a3,a4⟩,a5,a6⟩:=hc
 refine does_of Tryz.func27 rfl Tryz.ntmps27 rfl ⟨by simp,.nil⟩ (fun _=>?_)
 simp only[slots]
 refine z_tas
 refine z_ro
 exact⟨rfl,rfl⟩⟩
theorem ncheck_no(n:Noi)(hc:¬NoiOk n)(w:World):Does Tryz.prog 27 [.agg (noiE n).toArray] [] w (fun v S'=>v=.int .i64 2∧S'=[]):=by
 unfold NoiOk at hc
 refine does_of Tryz.func27 rfl Tryz.ntmps27 rfl ⟨by simp,.nil⟩ (fun _=>?_)
 simp only[slots]
 refine z_tas
 all_goals (refine z_ro;exact⟨rfl,rfl⟩)
instance widen_cv(n:Noi)(r:Int):CV Tryz.prog 59 [.agg (noiE n).toArray,.int .i64 r] (.agg (noiE (widN n r)).toArray) ((1≤n.sig∧n.sig≤1048576)∧InR .i64 r):=⟨fun hc w=>by
 refine does_of Tryz.func59 rfl Tryz.ntmps59 rfl ⟨by simp,.nil⟩ (fun _=>?_)
 simp only[slots]
 unfold widN
 refine z_tas
 refine z_ro
 exact⟨rfl,rfl⟩⟩
instance power_cv(n:Noi)(d:Int):CV Tryz.prog 113 [.agg (noiE n).toArray,.int .i64 d] (.int .i64 (powN n d)) (NoiOk n∧InR .i64 d):=⟨fun ⟨hk,hd⟩ w=>by
 obtain⟨⟨a1,a2⟩,-⟩:=id hk
 refine does_of Tryz.func113 rfl Tryz.ntmps113 rfl ⟨by simp,.nil⟩ (fun _=>?_)
 simp only[slots]
 by_cases h:d < -32*n.sig∨32*n.sig<d
 ·rw[show powN n d=2621440 from if_pos h]
  refine z_tas
  all_goals (refine z_ro;exact⟨rfl,rfl⟩)
 ·rw[show powN n d=min (divV (d*d*47274) (n.sig*n.sig) 2) 2621440 from if_neg h]
  have hq:=pow_div a1 (by omega) (d:=d) (by omega)
  have hD:=mulB 33554432 33554432 (a:=d) (b:=d) (by omega) (by omega)
  have hS:=mul_in (a:=n.sig) (b:=n.sig) (A:=1048576) (B:=1048576) (by omega) (by omega)
  have hs:0<n.sig*n.sig:=Int.mul_pos (by omega) (by omega)
  have iM:=muldiv_cv (d*d) 47274 (n.sig*n.sig) 2
  generalize divV (d*d*47274) (n.sig*n.sig) 2=q at *
  refine z_tas
  all_goals (refine z_ro;exact⟨rfl,rfl⟩)⟩
instance weightN_cv(n:Noi)(d:Int):CV Tryz.prog 61 [.agg (noiE n).toArray,.int .i64 d] (.int .i64 (wgtN n d)) (NoiOk n∧InR .i64 d):=⟨fun ⟨hk,hd⟩ w=>by
 obtain⟨⟨a1,a2⟩,⟨a3,a4⟩,-⟩:=id hk
 have hp:=powN_in hk d
 have he:=expN_in (powN n d)
 have hw:=wgtN_in hk d
 refine does_of Tryz.func61 rfl Tryz.ntmps61 rfl ⟨by simp,.nil⟩ (fun _=>?_)
 simp only[slots]
 unfold wgtN at *
 have iP:=power_cv n d
 generalize powN n d=p at *
 have iE:=exp_cv p
 generalize expN p=e at *
 have hm:=mul_in (a:=e) (b:=65536-n.flo) (A:=4294967296) (B:=65536) (by omega) (by omega)
 have iM:=muldiv_any e (65536-n.flo) 4294967296 2
 generalize divV (e*(65536-n.flo)) 4294967296 2=q at *
 refine z_tas
 refine z_ro
 exact⟨rfl,rfl⟩⟩
theorem gat_any(g:Grd)(A:Option Addr)(c i:Nat)(w:World)(hi:i<g.p.length)(hw:1≤g.w∧g.w≤64)(hl:g.p.length≤4096)(hs:0≤g.st∧g.st≤4096)(hx : -4611686018427387904≤g.x∧g.x≤4611686018427387904)(hy : -4611686018427387904≤g.y∧g.y≤4611686018427387904):
  Does Tryz.prog 60 [.agg (grE g A c).toArray,.int .i64 i] [] w (fun v S'=>v=.tuple #[.agg #[.int .i64 (g.x+colI g.w i*g.st),.int .i64 (g.y+rowI g.w i*g.st)],.bool true]∧S'=[]):=by
 obtain⟨gw,gh,gx,gy,gs,p⟩:=g
 dsimp only at hi hw hl hs hx hy ⊢
 dsimp only[grE]
 unfold colI rowI
 have h1:0≤(i:Int)%gw∧(i:Int)%gw≤64:=⟨Int.emod_nonneg _ (by omega),by have:=Int.emod_lt_of_pos (i:Int) (show 0<gw by omega);omega⟩
 have h2:0≤(i:Int)/gw∧(i:Int)/gw≤4096:=⟨Int.ediv_nonneg (by omega) (by omega),by have:=Int.ediv_le_self gw (Int.natCast_nonneg i);omega⟩
 have m1:=mul_in h1 hs
 have m2:=mul_in h2 hs
 refine does_of Tryz.func60 rfl Tryz.ntmps60 rfl ⟨by simp,.nil⟩ (fun _=>?_)
 simp only[slots]
 refine z_tas
 rename_i b2 b4 _ _
 refine c_dvL [.blk b2 63 [.int .i64 gw,.int .i64 gh,.int .i64 gx,.int .i64 gy,.int .i64 gs,.slice A p.length c]] (0::1::2::3::4::5::6::7::8::9::10::11::12::13::14::15::16::17::18::19::20::21::22::[]) Sub.au ?_
 intro _
 refine z_gvs
 all_goals (refine z_ro;exact⟨rfl,rfl⟩)
theorem over_prof(p r:List Value)(l l':List Smp)(a b c d e a' b' c' d' e':Value)(h:l.length=64)(h':l'.length=64):Over (p++(flat smpE l++(a::b::c::d::e::r))) p.length (flat smpE l'++[a',b',c',d',e']) (p++(flat smpE l'++(a'::b'::c'::d'::e'::r))):=⟨by
 have e1:(flat smpE l).length=192:=by rw[flat_len,h]
 have e2:(flat smpE l').length=192:=by rw[flat_len,h']
 refine⟨?_,by simp only[List.length_append,List.length_cons,List.length_nil];omega⟩
 rw[List.take_left,show p++(flat smpE l++(a::b::c::d::e::r))=(p++(flat smpE l++[a,b,c,d,e]))++r by simp]
 rw[show p.length+(flat smpE l'++[a',b',c',d',e']).length=(p++(flat smpE l++[a,b,c,d,e])).length by simp only[List.length_append,List.length_cons,List.length_nil];omega,List.drop_left]
 simp⟩
@[reducible] def prE(p:Prf):List Value:=flat smpE p.l++[.int .i64 p.first,.int .i64 p.n,.int .i64 p.x,.int .i64 p.y,.int .i64 p.gap]
theorem pNewE(gap:Int):prE (pNew gap)=flat smpE (List.replicate 64 ⟨0,0,0⟩)++[.int .i64 0,.int .i64 0,.int .i64 0,.int .i64 0,.int .i64 (min (max gap 0) 1048576)]:=rfl
def z197:List Value:=List.replicate 197 (.int .i64 0)
def zPr:Value:=.agg z197.toArray
set_option maxRecDepth 100000 in
instance:Inf Tryz.prog 102 197 1576 zPr:=⟨Tryz.t102,by kernel_rfl,by kernel_rfl,rfl,rfl⟩
instance:ZC zPr z197:=⟨rfl⟩
set_option maxRecDepth 100000 in
instance (v:Int):Over z197 196 [.int .i64 v] (flat smpE (List.replicate 64 ⟨0,0,0⟩)++[.int .i64 0,.int .i64 0,.int .i64 0,.int .i64 0,.int .i64 v]):=⟨by kernel_rfl,by unfold z197;rw[List.length_replicate];show 196+1≤197;decide⟩
instance:SzI Tryz.prog 99 3:=⟨Tryz.t99,by kernel_rfl,by kernel_rfl⟩
theorem prof_len{z:List Smp}(h:z.length=64)(a b c d e:Value):(flat smpE z++[a,b,c,d,e]).length=197:=by rw[List.length_append,flat_len,h];rfl
instance (a b c d e:Value):SameLen (flat smpE (List.replicate 64 ⟨0,0,0⟩)++[a,b,c,d,e]) 197:=⟨prof_len (List.length_replicate ..) a b c d e⟩
instance (a b c d e:Value):Cut (flat smpE (List.replicate 64 ⟨0,0,0⟩)++[a,b,c,d,e]) 0 197 (flat smpE (List.replicate 64 ⟨0,0,0⟩)++[a,b,c,d,e]):=⟨by
 have h:=prof_len (z:=List.replicate 64 ⟨0,0,0⟩) (List.length_replicate ..) a b c d e
 refine⟨?_,h⟩
 rw[List.drop_zero,← h,List.take_length]⟩
instance (a b c d e:Value):Over z197 0 (flat smpE (List.replicate 64 ⟨0,0,0⟩)++[a,b,c,d,e]) (flat smpE (List.replicate 64 ⟨0,0,0⟩)++[a,b,c,d,e]):=⟨by
 have h:=prof_len (z:=List.replicate 64 ⟨0,0,0⟩) (List.length_replicate ..) a b c d e
 have h2:z197.length=197:=List.length_replicate ..
 refine⟨?_,by rw[h,h2];decide⟩
 rw[Nat.zero_add,h,← h2,List.drop_length,List.take_zero,List.nil_append,List.append_nil]⟩
instance pnew_cv(gap:Int):CV Tryz.prog 43 [.int .i64 gap] (.agg (prE (pNew gap)).toArray) True:=⟨fun _ w=>by
 refine does_of Tryz.func43 rfl Tryz.ntmps43 rfl ⟨by simp,.nil⟩ (fun _=>?_)
 simp only[slots]
 refine z_tas
 refine z_ro
 exact⟨rfl,rfl⟩⟩
section
variable (g:Nat) (T:TypeId) (p r:List Value) (P:Prf)
theorem plast_any(w:World)(hown:Own [.blk g T (p++prT P r)] w)(hok:PrfOk P):
  Does Tryz.prog 127 [.pointer (some ⟨g,p.length,none⟩)] [.blk g T (p++prT P r)] w
   (fun v S'=>v=.agg (smpE (P.l.getD ((P.first+P.n+63)%64) default)).toArray∧S'=[.blk g T (p++prT P r)]):=by
 obtain⟨l,first,m,x,y,gap⟩:=P
 obtain⟨h1,h2,h3,h4,h5,h6⟩:=hok
 dsimp only at h1 h2 h3 h4 h5 h6 ⊢
 dsimp only[prT]at *
 have iL:LenE (flat smpE l) 192:=⟨by rw[flat_len,h1]⟩
 obtain⟨k,hk⟩:∃k,(first+m+63)%64=k:=⟨_,rfl⟩
 have iK:∀w0 W H t u a b,LV Tryz.prog w0 W H (.binOp .rem t a b u) [.int .i64 ((first:Int)+m+64-1),.int .i64 64] (.int .i64 (k:Int)) True:=fun _ _ _ _ _ _ _=>lvM inferInstance (by omega) (congrArg (Value.int .i64) (by omega))
 have iC:=cut_flat (e:=smpE) l k (by omega) (.int .i64 first::.int .i64 m::.int .i64 x::.int .i64 y::.int .i64 gap::r)
 rw[hk]
 refine does_of Tryz.func127 rfl Tryz.ntmps127 rfl hown (fun _=>?_)
 simp only[slots]
 refine z_tas
 refine c_dvL [.blk g T (p++(flat smpE l++(.int .i64 first::.int .i64 m::.int .i64 x::.int .i64 y::.int .i64 gap::r)))] (0::1::2::3::4::5::6::7::8::9::10::11::12::13::14::15::16::17::[]) Sub.au ?_
 intro _
 refine z_gvx
 all_goals (refine j_outK (S':=[.blk g T (p++(flat smpE l++(.int .i64 first::.int .i64 m::.int .i64 x::.int .i64 y::.int .i64 gap::r)))]) Sub.au ?_;refine z_rk;exact⟨rfl,rfl⟩)
theorem plen_any(w:World)(hown:Own [.blk g T (p++prT P r)] w)(hok:PrfOk P):
  Does Tryz.prog 76 [.pointer (some ⟨g,p.length,none⟩)] [.blk g T (p++prT P r)] w
   (fun v S'=>v=.int .i64 P.n∧S'=[.blk g T (p++prT P r)]):=by
 obtain⟨l,first,m,x,y,gap⟩:=P
 obtain⟨h1,h2,h3,h4,h5,h6⟩:=hok
 dsimp only at h1 ⊢
 dsimp only[prT]at *
 have iL:LenE (flat smpE l) 192:=⟨by rw[flat_len,h1]⟩
 refine does_of Tryz.func76 rfl Tryz.ntmps76 rfl hown (fun _=>?_)
 simp only[slots]
 refine z_tas
 exact j_out1 rfl rfl Sub.au ⟨rfl,rfl⟩
theorem pclear_any(w:World)(hown:Own [.blk g T (p++prT P r)] w)(hok:PrfOk P):
  Does Tryz.prog 82 [.pointer (some ⟨g,p.length,none⟩)] [.blk g T (p++prT P r)] w
   (fun v S'=>v=.tuple #[]∧S'=[.blk g T (p++prT (pNew P.gap) r)]):=by
 have iN:=pnew_cv P.gap
 rw[pNewE]at iN
 obtain⟨l,first,m,x,y,gap⟩:=P
 obtain⟨h1,h2,h3,h4,h5,h6⟩:=hok
 dsimp only at h1 iN ⊢
 dsimp only[prT,pNew]at *
 have iL:LenE (flat smpE l) 192:=⟨by rw[flat_len,h1]⟩
 have hz:(List.replicate 64 (⟨0,0,0⟩:Smp)).length=64:=List.length_replicate ..
 generalize List.replicate 64 (⟨0,0,0⟩:Smp)=z at *
 have iZ:∀a b c d e:Value,SameLen (flat smpE z++[a,b,c,d,e]) 197:=fun a b c d e=>⟨prof_len hz a b c d e⟩
 have iO:=fun a b c d e=>over_prof p r l z (.int .i64 first) (.int .i64 m) (.int .i64 x) (.int .i64 y) (.int .i64 gap) a b c d e h1 hz
 refine does_of Tryz.func82 rfl Tryz.ntmps82 rfl hown (fun _=>?_)
 simp only[slots]
 refine z_tas
 exact j_outN rfl Sub.au ⟨rfl,rfl⟩
theorem pmove_any(dx dy:Int)(w:World)(hown:Own [.blk g T (p++prT P r)] w)(hok:PrfOk P):
  Does Tryz.prog 81 [.pointer (some ⟨g,p.length,none⟩),.int .i64 dx,.int .i64 dy] [.blk g T (p++prT P r)] w
   (fun v S'=>v=.bool (pMove P dx dy).2∧S'=[.blk g T (p++prT (pMove P dx dy).1 r)]):=by
 obtain⟨l,first,m,x,y,gap⟩:=P
 obtain⟨h1,h2,h3,h4,h5,h6⟩:=hok
 dsimp only at h1 h4 ⊢
 have iL:LenE (flat smpE l) 192:=⟨by rw[flat_len,h1]⟩
 unfold pMove out24
 dsimp only[prT]at *
 refine does_of Tryz.func81 rfl Tryz.ntmps81 rfl hown (fun _=>?_)
 simp only[slots]
 by_cases c1:(dx < -16777216∨16777216<dx)∨dy < -16777216∨16777216<dy
 ·rw[if_pos c1]
  refine z_tas
  all_goals first
   | exact j_out1 rfl rfl Sub.au ⟨rfl,rfl⟩
   | (exfalso;omega)
 ·rw[if_neg c1]
  by_cases c2:(x+dx < -16777216∨16777216<x+dx)∨y+dy < -16777216∨16777216<y+dy
  ·rw[if_pos c2]
   refine z_tas
   all_goals first
    | exact j_out1 rfl rfl Sub.au ⟨rfl,rfl⟩
    | (exfalso;omega)
  ·rw[if_neg c2]
   refine z_tas
   all_goals first
    | exact j_out1 rfl rfl Sub.au ⟨rfl,rfl⟩
    | (exfalso;omega)
end
def tab16:List Int:=[65536,68438,71468,74632,77936,81387,84990,88753,92682,96786,101071,105546,110218,115098,120194,125515]
theorem tab16_in:∀i,i<16→65536≤tab16.getD i 0∧tab16.getD i 0≤131072:=by decide
instance sixteenth_cv(p:Int):CV Tryz.prog 251 [.int .i64 p] (.int .i64 (tab16.getD p.toNat 0)) (0≤p∧p<16):=⟨fun hc w=>by
 obtain⟨k,rfl⟩:∃k:Nat,p=k:=⟨p.toNat,by omega⟩
 rw[Int.toNat_natCast]
 have hk:k<16:=by omega
 have h0:((k:Nat):Int)=0∨((k:Nat):Int)=1∨((k:Nat):Int)=2∨((k:Nat):Int)=3∨((k:Nat):Int)=4∨((k:Nat):Int)=5∨((k:Nat):Int)=6∨((k:Nat):Int)=7∨((k:Nat):Int)=8∨((k:Nat):Int)=9∨((k:Nat):Int)=10∨((k:Nat):Int)=11∨((k:Nat):Int)=12∨((k:Nat):Int)=13∨((k:Nat):Int)=14∨((k:Nat):Int)=15:=by omega
 have hq:∃q:Int,((k:Nat):Int)=q∧q.toNat=k:=⟨_,rfl,Int.toNat_natCast k⟩
 obtain⟨q,hq1,hq2⟩:=hq
 rw[hq1]at h0 ⊢
 rw[← hq2]
 clear hq1 hq2 hc
 refine does_of Tryz.func251 rfl Tryz.ntmps251 rfl ⟨by simp,.nil⟩ (fun _=>?_)
 simp only[slots]
 rcases h0 with rfl|rfl|rfl|rfl|rfl|rfl|rfl|rfl|rfl|rfl|rfl|rfl|rfl|rfl|rfl|rfl
 all_goals refine z_tas
 all_goals exact j_out1 rfl rfl (.nil _) ⟨rfl,rfl⟩⟩
instance wmost_cv(z s p:Int):CV Tryz.prog 232 [.agg (wideV z).toArray,.int .i64 s,.int .i64 p] (.bool (mostN z s p)) ((0≤z∧z≤1152921504606846976)∧(0≤s∧s≤1073741824)∧0≤p∧p≤640):=⟨fun ⟨hz,hs,hp⟩ w=>by
 obtain⟨K,hK⟩:∃K:Nat,p/16=K:=⟨(p/16).toNat,by omega⟩
 have hK40:K≤40:=by omega
 have hd:∀i,i≤K→0≤dblW z i∧dblW z i≤1267650600228229401496703205376:=fun i hi=>by
  rw[dblW_eq]
  have e:((2:Int)^i)=((2^i:Nat):Int):=by rw[Int.natCast_pow];rfl
  have h5:=Nat.pow_le_pow_right (show 0<2 by decide) (show i≤40 by omega)
  have h4:=mul_in (a:=z) (b:=2^i) hz ⟨by rw[e];exact Int.natCast_nonneg _,(by rw[e];omega:(2:Int)^i≤1099511627776)⟩
  omega
 have hM:mostN z s p=(decide (dblW z K≤s*65536)&&decide (dblW z K*tab16.getD (p%16).toNat 0≤s*4294967296)):=by
  unfold mostN
  rw[hK,Int.toNat_natCast,dblW_eq]
  rfl
 have ht:=tab16_in (p%16).toNat (by omega)
 have hdK:=hd K (Nat.le_refl _)
 rw[hM]
 refine does_of Tryz.func232 rfl Tryz.ntmps232 rfl ⟨by simp,.nil⟩ (fun _=>?_)
 simp only[slots]
 refine z_tas
 rename_i b3 b7
 rw[hK]
 refine c_loop (X:=Nat) (fun i=>i≤K) (fun i=>[(1,.int .i64 s),(2,.int .i64 p),(7,.pointer (some ⟨b7,0,none⟩)),(15,.int .i64 K),(16,.int .i64 i)]) (fun i=>[.blk b7 238 (wideV (dblW z i))]) (fun i=>K-i) 0 (Nat.zero_le _) ⟨rfl,rfl,rfl,rfl,rfl,trivial⟩ (by show Sub [.blk b7 238 (wideV z)] _;exact Sub.au) ?_
 intro i hi
 rcases Nat.lt_or_ge i K with h|h
 ·have h1:=hd i hi
  have e:dblW z (i+1)=dblW z i+dblW z i:=rfl
  generalize dblW z i=x at *
  refine z_tas
  refine c_round (i+1) h (by show K-(i+1)<K-i;omega) ⟨rfl,rfl,rfl,rfl,by simp[look],trivial⟩ ?_
  rw[e]
  exact Sub.au
 ·obtain rfl:i=K:=by omega
  clear hd hM
  generalize dblW z i=a at *
  have hcm:=cmpZ_pos a (s*65536)
  have hm:=mul_in (a:=a) (b:=tab16.getD (p%16).toNat 0) (A:=1267650600228229401496703205376) (B:=131072) hdK (by omega)
  have iD:∀c:a≤s*65536,CV Tryz.prog 160 [.agg (wideV a).toArray,.int .i64 1,.int .i64 0] (.tuple #[.int .i64 a,.int .i64 0]) True:=fun c=>⟨fun _ w=>by
   have e1:divV a 1 0=a:=by rw[divV_down (by decide),Int.ediv_one]
   have:=(divI_cv a 1 0).h (by rw[e1];refine⟨by omega,by omega,by omega,by omega,by omega⟩) w
   rw[e1]at this
   exact this⟩
  have iS:=sixteenth_cv (p%16)
  generalize tab16.getD (p%16).toNat 0=t at *
  by_cases hc:a≤s*65536
  ·have iD2:=iD hc
   rw[decide_eq_true hc,Bool.true_and]
   have hcm2:=cmpZ_pos (a*t) (s*4294967296)
   refine z_tas
   all_goals first
    | (exfalso;omega)
    | (refine z_ro
       refine ⟨congrArg Value.bool ?_, rfl⟩
       rw [Bool.eq_iff_iff]
       simp only [decide_eq_true_eq]
       omega)
  ·rw[decide_eq_false hc,Bool.false_and]
   refine z_tas
   all_goals first
    | (exfalso;omega)
    | (refine z_ro;exact⟨rfl,rfl⟩)⟩
instance surprise_cv(z s:Int):CV Tryz.prog 187 [.agg (wideV z).toArray,.int .i64 s] (.int .i64 (surN z s)) ((0<z∧z≤1152921504606846976)∧(0<s∧s≤1073741824)):=⟨fun ⟨hz,hs⟩ w=>by
 rw[show surN z s=surTo z s 641 0 640 from if_neg (by omega)]
 have iY:=fun m=>wmost_cv z s m
 obtain⟨f,hf⟩:∃f:Int→Bool,∀m,mostN z s m=f m:=⟨_,fun _=>rfl⟩
 refine does_of Tryz.func187 rfl Tryz.ntmps187 rfl ⟨by simp,.nil⟩ (fun _=>?_)
 simp only[slots]
 refine z_tas
 all_goals try (exfalso;omega)
 rename_i b2 _ _
 refine c_loop (X:=Nat×Int×Int) (fun q=>surTo z s q.1 q.2.1 q.2.2=surTo z s 641 0 640∧(q.2.2-q.2.1+1≤q.1)∧0≤q.2.1∧q.2.2≤640∧q.2.1≤q.2.2)
  (fun q=>[(1,.int .i64 s),(2,.pointer (some ⟨b2,0,none⟩)),(5,.int .i64 q.2.1),(6,.int .i64 q.2.2)])
  (fun _=>[.blk b2 238 (wideV z)]) (fun q=>q.1) (641,0,640) ⟨rfl,by dsimp only;omega,by dsimp only;omega,by dsimp only;omega,by dsimp only;omega⟩ ⟨rfl,rfl,rfl,rfl,trivial⟩ Sub.au ?_
 rintro⟨k,lo,hi⟩ ⟨e1,e2,e3,e4,e5⟩
 dsimp only at e1 e2 e3 e4 e5 ⊢
 rcases Int.lt_or_le lo hi with h|h
 ·obtain⟨k,rfl⟩:∃k',k=k'+1:=⟨k-1,by omega⟩
  rw[surTo,if_pos h]at e1
  obtain⟨m,hm⟩:∃m,(lo+hi+1)/2=m:=⟨_,rfl⟩
  rw[hm,hf]at e1
  have iY2:=iY m
  rw[hf]at iY2
  have hmb:lo<m∧m≤hi:=by omega
  have iQ:∀w0 W H t u x y,MS Tryz.prog w0 W H (.binOp .quo t x y u) [.int .i64 (lo+hi+1),.int .i64 2] (.int .i64 m) True:=fun _ _ _ _ _ _ _=>msM inferInstance (by refine⟨by omega,by omega,by omega,by omega⟩) (congrArg (Value.int .i64) hm)
  cases hb:f m
  ·rw[hb]at iY2 e1
   rw[if_neg (by decide)]at e1
   refine z_tas
   all_goals exact c_round (k,lo,m-1) ⟨e1,by dsimp only;omega,by dsimp only;omega,by dsimp only;omega,by dsimp only;omega⟩ (by show k<k+1;omega) ⟨rfl,rfl,rfl,rfl,trivial⟩ Sub.au
  ·rw[hb]at iY2 e1
   rw[if_pos rfl]at e1
   refine z_tas
   all_goals exact c_round (k,m,hi) ⟨e1,by dsimp only;omega,by dsimp only;omega,by dsimp only;omega,by dsimp only;omega⟩ (by show k<k+1;omega) ⟨rfl,rfl,rfl,rfl,trivial⟩ Sub.au
 ·obtain rfl:lo=hi:=by omega
  have e6:surTo z s k lo lo=lo:=by
   cases k with
   | zero=>rfl
   | succ k=>rw[surTo,if_neg (by omega)]
  rw[← e1,e6]
  refine z_tas
  refine z_ro
  exact⟨rfl,rfl⟩⟩
instance rcheck_cv(c:Cnf):CV Tryz.prog 25 [.agg (rulE c).toArray] (.int .i64 (if RulesOk c then 0 else 2)) True:=⟨fun _ w=>by
 refine does_of Tryz.func25 rfl Tryz.ntmps25 rfl ⟨by simp,.nil⟩ (fun n=>?_)
 simp only[slots]
 by_cases hk:RulesOk c
 ·rw[if_pos hk]
  unfold RulesOk at hk
  refine z_tas
  all_goals (refine z_ro;exact⟨rfl,rfl⟩)
 ·rw[if_neg hk]
  unfold RulesOk at hk
  refine z_tas
  all_goals (refine z_ro;exact⟨rfl,rfl⟩)⟩
instance wcheck_cv(c:Cnf):CV Tryz.prog 26 [.agg (mrkE c).toArray] (.int .i64 (if MarksOk c then 0 else 2)) True:=⟨fun _ w=>by
 refine does_of Tryz.func26 rfl Tryz.ntmps26 rfl ⟨by simp,.nil⟩ (fun n=>?_)
 simp only[slots]
 by_cases hk:MarksOk c
 ·rw[if_pos hk]
  unfold MarksOk at hk
  refine z_tas
  all_goals (refine z_ro;exact⟨rfl,rfl⟩)
 ·rw[if_neg hk]
  unfold MarksOk at hk
  refine z_tas
  all_goals (refine z_ro;exact⟨rfl,rfl⟩)⟩
instance within_cv(x y:Int):CV Tryz.prog 47 [.agg #[.int .i64 x,.int .i64 y]] (.bool (within36 x y)) True:=⟨fun _ w=>by
 refine does_of Tryz.func47 rfl Tryz.ntmps47 rfl ⟨by simp,.nil⟩ (fun n=>?_)
 simp only[slots]
 unfold within36
 refine z_tas
 all_goals exact j_out1 rfl rfl (.nil _) ⟨(congrArg Value.bool (by rw[Bool.eq_iff_iff];simp only[decide_eq_true_eq,Bool.and_eq_true,Bool.or_eq_true,Bool.not_eq_true,beq_iff_eq,bne_iff_ne,true_iff,iff_true,false_iff,iff_false,Bool.false_eq_true,not_false_eq_true,ne_eq];omega)),rfl⟩⟩
instance gmove_cv(g:Grd)(A:Option Addr)(c:Nat)(dx dy:Int):CV Tryz.prog 144 [.agg (grE g A c).toArray,.int .i64 dx,.int .i64 dy] (.agg (grE (moveG g dx dy) A c).toArray) True:=⟨fun _ w=>by
 refine does_of Tryz.func144 rfl Tryz.ntmps144 rfl ⟨by simp,.nil⟩ (fun n=>?_)
 simp only[slots]
 unfold moveG
 refine z_tas
 refine z_ro
 exact⟨rfl,rfl⟩⟩
end Go.Proofs.YthajpemlpmlefaaGreat
