import Derived.Test.YtbhchphfmhmabaaGreatP32
set_option maxHeartbeats 512000000
set_option maxRecDepth 4000
set_option linter.unusedVariables false
set_option linter.unusedSimpArgs false
namespace Go.Proofs.YtbhchphfmhmabaaGreat
open Go.RowKit _root_.Go.Proofs.Tryz
attribute [local irreducible] OJ J bM Code.wpIn wpListIn Oper.wpIn bodyPost CallsIn aF
theorem aAl(g:bE)(A:Option Addr)(c:Nat)(w:World)(hr:bP w (bB []) A g.p.length c 1 (aD .i64 g.p))(hp:dY g.p)(hm:g.p.length≤4096):
  aF prog 156 [.agg (aQ g A c).toArray] [] w (fun v S'=>v=.int .i64 (aL g.p g.p.length)∧S'=[]):=by
 obtain⟨gw,gh,gx,gy,gs,p⟩:=g;dsimp only at hr hp hm ⊢;dsimp only[aQ];have hsi:=fun n hn=>tV (l:=p) (B:=1073741824) hp n hn;refine aJ func156 rfl ntmps156 rfl ⟨aE,.nil⟩ (fun n=>?_);simp only[aG];refine aB;refine cG (X:=Nat) (fun i=>i≤p.length) (fun i=>[(3,.int .i64 (aL p i)),(7,.slice A p.length c),(8,.int .i64 p.length),(9,.int .i64 i)]) (fun _=>[]) (fun i=>p.length-i) 0 (Nat.zero_le _) ⟨rfl,rfl,rfl,rfl,trivial⟩ (.nil _) ?_;intro i hi;rcases Nat.lt_or_ge i p.length with h|h
 ·obtain⟨bA,oA,rfl,hRA⟩:=hr.at_ (by omega:0<p.length);have e:aL p (i+1)=aL p i+p.getD i 0:=rfl;have hs1:=hsi i hi;have hpi:=hp i h;clear hsi;generalize aL p i=s at *;refine aB;exact aR (i+1) h (by show p.length-(i+1)<p.length-i;omega) ⟨by rw[e];rfl,rfl,rfl,by simp[aI],trivial⟩ (.nil _)
 ·obtain rfl:i=p.length:=oo;refine aB;exact aM rfl rfl (.nil _) ⟨rfl,rfl⟩
theorem aLx(g:bE)(A:Option Addr)(c:Nat)(w:World)(hr:bP w (bB []) A g.p.length c 1 (aD .i64 g.p))(hp:dY g.p)(hn:0<g.p.length∧g.p.length≤4096)(hz:0<aL g.p g.p.length):
  aF prog 170 [.agg (aQ g A c).toArray] [] w
   (fun v S'=>∃u,v=.tuple #[u,.int .i64 0]∧tA (bX g) u S'):=by
 have hG:=aAl g A c;obtain⟨gw,gh,gx,gy,gs,p⟩:=g;unfold bX;dsimp only at hr hp hn hz hG ⊢;dsimp only[aQ]at *;have hsN:=tV (l:=p) (B:=1073741824) hp p.length (Nat.le_refl _);have hge:=fun i (hi:i<p.length)=>aDl (l:=p) (B:=1073741824) hp p.length (Nat.le_refl _) hi;have hNL:vB p=dO (fun i=>p.getD i 0*1073741824/aL p p.length) p.length:=if_neg oo;have hr0:=hr;obtain⟨bA,oA,rfl,hRA⟩:=hr.at_ hn.1;refine aJ func170 rfl ntmps170 rfl ⟨aE,.nil⟩ (fun n=>?_);simp only[aG];refine aB;refine bU rfl rfl rfl (fun w hw=>hG w ⟨hr0.h.go hw (aC.nil _)⟩ hp hn.2) ?_;refine aB;rename_i b1 b2 _;refine lf rfl rfl rfl (S:=[]) (fun w' hw' ho=>aJ7 (some ⟨bA,oA,none⟩) c p w' ⟨hr0.h.go hw' (aC.nil _)⟩ oo) ?_;rintro v S' ⟨A2,c2,rfl,rfl⟩;generalize aL p p.length=z at *;obtain⟨g,hg⟩:∃g:Nat→Int,(fun i=>p.getD i 0*1073741824/z)=g:=⟨_,rfl⟩;rw[hg]at hNL;refine aB;refine cG (X:=Nat) (fun i=>i≤p.length) (fun i=>[(1,.pointer (some ⟨b1,0,none⟩)),(2,.pointer (some ⟨b2,0,none⟩)),(4,.int .i64 z),(17,.slice A2 p.length c2),(18,.int .i64 p.length),(19,.int .i64 i)])
  (fun i=>[.row (.slice A2 p.length c2) 2 1 p.length (aD .i64 (pX g p i)),.blk b2 126 jY,.blk b1 126 [.int .i64 gw,.int .i64 gh,.int .i64 gx,.int .i64 gy,.int .i64 gs,.slice A2 p.length c2]]) (fun i=>p.length-i) 0 (Nat.zero_le _) ⟨rfl,rfl,rfl,rfl,rfl,rfl,trivial⟩ (by show aA [.row (.slice A2 p.length c2) 2 1 p.length (aD .i64 p),_,_] _;exact aA.au) ?_
 intro i hi;rcases Nat.lt_or_ge i p.length with h|h
 ·have hml:=aLm g hi;have hmg:=aLl g h;have kM:=aLn g h;have hpi:=hp i h;have hgi:=hge i h;have hgz:g i=p.getD i 0*1073741824/z:=by rw[← hg]
  have iD:=muldiv_any (p.getD i 0) 1073741824 z 0;rw[aAi hz,← hgz]at iD;obtain⟨R,hR⟩:∃R,pX g p i=R:=⟨_,rfl⟩;rw[hR]at hml hmg kM ⊢;have iE:rI (aD .i64 R) i (.int .i64 (p.getD i 0)) True:=⟨fun _=>by rw[← hmg];exact(inferInstance:rI (aD .i64 R) i (.int .i64 (R.getD i 0)) (i<R.length)).h oo⟩;refine zB (A:=A2) (m:=p.length) (cc:=c2) oo (fun g2 hg2=>?_);subst hg2;clear hge hG;generalize p.getD i 0=pi at *;refine aB;refine fJ [] (0::1::2::3::4::5::6::7::8::9::10::[]) (.nil _) ?_;intro _;refine gO;all_goals
   refine aR (i+1) h (by show p.length-(i+1)<p.length-i;omega) ⟨rfl,rfl,rfl,rfl,rfl,by simp[aI],trivial⟩ ?_;rw[← kM];exact aA.au
 ·obtain rfl:i=p.length:=oo;rw[aLk];refine aB;refine eC (S':=[.row (.slice A2 p.length c2) 2 1 p.length (aD .i64 (dO g p.length))]) aA.au ?_;refine cZ;refine⟨_,rfl,A2,c2,?_,?_⟩
  ·dsimp only[aQ];rw[hNL,fQ]
  ·dsimp only;rw[hNL,fQ]
instance clamp_cv(i n:Int):CV prog 217 [.int .i64 i,.int .i64 n] (.int .i64 (fZ i n)) ((-1000000≤i∧i≤1000000)∧0≤n∧n≤1000000):=⟨fun hc w=>by refine aJ func217 rfl ntmps217 rfl ⟨aE,.nil⟩ (fun n=>?_);simp only[aG];unfold fZ;refine aB;refine bK;exact⟨rfl,rfl⟩⟩
def qM(W:Int)(x y d:Int):Int:=y*W+fZ (x+d) W
def tE(W H:Int)(x y d:Int):Int:=fZ (y+d) H*W+x
theorem aC3(i:Int){n:Int}(h:1≤n):0≤fZ i n∧fZ i n≤n-1:=by unfold fZ;omega
theorem aQ4(gb:Nat)(g:bE)(A:Option Addr)(c:Nat)(x y d:Int)(w:World)(hown:aZ [.blk gb 126 (aQ g A c)] w)(hx:0≤x∧x≤64)(hy:0≤y∧y≤64)(hd : -1≤d∧d≤1)(hw:1≤g.w∧g.w≤64):
  aF prog 216 [.int .i64 x,.int .i64 y,.int .i64 d,.pointer (some ⟨gb,0,none⟩)] [.blk gb 126 (aQ g A c)] w (fun v S'=>v=.int .i64 (qM g.w x y d)∧S'=[.blk gb 126 (aQ g A c)]):=by
 obtain⟨gw,gh,gx,gy,gs,p⟩:=g;dsimp only at hw ⊢;dsimp only[aQ]at *;have hm:=cT (a:=y) (b:=gw) (A:=64) (B:=64) oo oo;have hc:=aC3 (x+d) hw.1;have iC:=clamp_cv (x+d) gw;unfold qM;generalize fZ (x+d) gw=e at *;refine aJ func216 rfl ntmps216 rfl hown (fun n=>?_);simp only[aG];refine aB;refine kG (0::1::2::3::4::5::6::7::8::9::10::11::[]) ?_;intro _;refine jR;all_goals exact aM rfl rfl aA.au ⟨rfl,rfl⟩
theorem aQ5(gb:Nat)(g:bE)(A:Option Addr)(c:Nat)(x y d:Int)(w:World)(hown:aZ [.blk gb 126 (aQ g A c)] w)(hx:0≤x∧x≤64)(hy:0≤y∧y≤64)(hd : -1≤d∧d≤1)(hw:1≤g.w∧g.w≤64)(hh:1≤g.h∧g.h≤64):
  aF prog 218 [.int .i64 x,.int .i64 y,.int .i64 d,.pointer (some ⟨gb,0,none⟩)] [.blk gb 126 (aQ g A c)] w (fun v S'=>v=.int .i64 (tE g.w g.h x y d)∧S'=[.blk gb 126 (aQ g A c)]):=by
 obtain⟨gw,gh,gx,gy,gs,p⟩:=g;dsimp only at hw hh ⊢;dsimp only[aQ]at *;have hc:=aC3 (y+d) hh.1;have hm:=cT (a:=fZ (y+d) gh) (b:=gw) (A:=64) (B:=64) oo oo;have iC:=clamp_cv (y+d) gh;unfold tE;generalize fZ (y+d) gh=e at *;refine aJ func218 rfl ntmps218 rfl hown (fun n=>?_);simp only[aG];refine aB;refine kG (0::1::2::3::4::5::6::7::8::9::10::11::[]) ?_;intro _;refine jR;all_goals exact aM rfl rfl aA.au ⟨rfl,rfl⟩
def tR(q W:Int)(at':Int→Int→Int→Int)(p:List Int)(k:Nat):Int:=(q*p.getD (at' (aY W k) (aV W k) (-1)).toNat 0+(256-2*q)*p.getD (at' (aY W k) (aV W k) 0).toNat 0+q*p.getD (at' (aY W k) (aV W k) 1).toNat 0)/256
def rC(q W:Int)(at':Int→Int→Int→Int)(p:List Int):List Int:=dO (tR q W at' p) p.length
theorem aY3{q:Int}{W H:Nat}{p:List Int}(hW:0<W)(hl:p.length=W*H):rC q W (qM W) p=oY q W p:=by
 unfold rC oY;refine aDq (fun i hi=>?_);obtain⟨e1,e2,e3,e4⟩:=oD hW i;have hc:fZ ((i%W:Nat)+0:Int) W=((i%W:Nat):Int):=by unfold fZ;omega
 unfold tR qM;rw[e1,e2,hc,show ((i/W:Nat):Int)*(W:Int)+((i%W:Nat):Int)=(i:Int) by rw[← Int.natCast_mul,← Int.natCast_add,e3],Int.toNat_natCast];rfl
theorem aY4{q:Int}{W H:Nat}{p:List Int}(hW:0<W)(hl:p.length=W*H):rC q W (tE W H) p=sS q W H p:=by
 unfold rC sS;refine aDq (fun i hi=>?_);obtain⟨e1,e2,e3,e4⟩:=oD hW i;have hr:=rF (W:=W) (H:=H) (i:=i) oo;have hc:fZ ((i/W:Nat)+0:Int) H=((i/W:Nat):Int):=by generalize i/W=r at *;unfold fZ;omega
 unfold tR tE;rw[e1,e2,hc,show ((i/W:Nat):Int)*(W:Int)+((i%W:Nat):Int)=(i:Int) by rw[← Int.natCast_mul,← Int.natCast_add,e3],Int.toNat_natCast];rfl
theorem aMj(AT:FuncId)[hCl:Cl prog AT](at':Int→Int→Int→Int)(gb qb:Nat)(g:bE)(Ag:Option Addr)(cg:Nat)(q:Int)(A:Option Addr)(c:Nat)(p:List Int)(w:World)(W H:Nat)(hW:g.w=W)(hH:g.h=H)(hW1:1≤W∧W≤64)(hH1:1≤H∧H≤64)(hp:dY p)(hl:p.length=W*H)(hq:0≤q∧q≤85)
  (hown:aZ [.blk gb 126 (aQ g Ag cg),.blk qb 2 [.int .i64 q]] w) (hr:bP w (bB [.blk gb 126 (aQ g Ag cg),.blk qb 2 [.int .i64 q]]) A p.length c 1 (aD .i64 p))
  (hat:∀(x y:Nat) (d:Int),x<W→y<H→(-1≤d∧d≤1)→∃n:Nat,at' x y d=n∧n<W*H∧∀w,aZ [.blk gb 126 (aQ g Ag cg)] w→aF prog AT [.int .i64 x,.int .i64 y,.int .i64 d,.pointer (some ⟨gb,0,none⟩)] [.blk gb 126 (aQ g Ag cg)] w (fun v S'=>v=.int .i64 n∧S'=[.blk gb 126 (aQ g Ag cg)])) :
  aF prog 215 [.slice A p.length c,.func (.func AT) #[] #[.pointer (some ⟨gb,0,none⟩)],.pointer (some ⟨gb,0,none⟩),.pointer (some ⟨qb,0,none⟩)] [.blk gb 126 (aQ g Ag cg),.blk qb 2 [.int .i64 q]] w
   (fun v S'=>∃A' c',v=.slice A' p.length c'∧S'=[.row (.slice A' p.length c') 2 1 p.length (aD .i64 (rC q W at' p)),.blk gb 126 (aQ g Ag cg),.blk qb 2 [.int .i64 q]]):=by
 obtain⟨gw,gh,gx,gy,gs,gp⟩:=g;dsimp only at hW hH ⊢;subst hW hH;dsimp only[aQ]at *;have hWH:W*H≤4096:=Nat.mul_le_mul hW1.2 hH1.2;have hWH0:0<W*H:=Nat.mul_pos oo oo;obtain⟨bA,oA,rfl,hRA⟩:=hr.at_ (by omega:0<p.length);unfold rC;obtain⟨N,hN⟩:∃N:Nat,p.length=N:=⟨_,rfl⟩;have hlen:=fun i (hi:i≤N)=>aB2 (tR q W at' p) hi;have hset:=fun i (hi:i<N)=>aB3 (tR q W at' p) hi;rw[hN];refine aJ func215 rfl ntmps215 rfl hown (fun n=>?_);simp only[aG];refine aB;rename_i bo;refine cG (X:=Nat) (fun y=>y≤H) (fun y=>[(0,.slice (some ⟨bA,oA,none⟩) N c),(1,.func (.func AT) #[] #[.pointer (some ⟨gb,0,none⟩)]),(2,.pointer (some ⟨gb,0,none⟩)),(3,.pointer (some ⟨qb,0,none⟩)),(7,.slice (some ⟨bo,0,none⟩) N N),(15,.int .i64 H),(16,.int .i64 y)])
  (fun y=>[.row (.slice (some ⟨bo,0,none⟩) N N) 2 1 N (aD .i64 (kQ (tR q W at' p) N (y*W))),.blk gb 126 [.int .i64 W,.int .i64 H,.int .i64 gx,.int .i64 gy,.int .i64 gs,.slice Ag gp.length cg],.blk qb 2 [.int .i64 q]]) (fun y=>H-y) 0 (Nat.zero_le _) ⟨rfl,rfl,rfl,rfl,rfl,rfl,rfl,trivial⟩ (by rw[Nat.zero_mul];show aA [.row (.slice (some ⟨bo,0,none⟩) N N) 2 1 N (aD .i64 (List.replicate N 0)),_,_] _;exact aA.au) ?_
 intro y hy;rcases Nat.lt_or_ge y H with h|h
 ·have hyW:y*W+W≤N:=by have:=Nat.mul_le_mul_right W (show y+1≤H from h);rw[Nat.add_mul,Nat.one_mul]at this;rw[← hN,hl,Nat.mul_comm W H];exact this
  refine aB;refine cG (X:=Nat) (fun x=>x≤W) (fun x=>[(0,.slice (some ⟨bA,oA,none⟩) N c),(1,.func (.func AT) #[] #[.pointer (some ⟨gb,0,none⟩)]),(2,.pointer (some ⟨gb,0,none⟩)),(3,.pointer (some ⟨qb,0,none⟩)),(7,.slice (some ⟨bo,0,none⟩) N N),(8,.int .i64 y),(15,.int .i64 H),(16,.int .i64 y),(20,.int .i64 W),(21,.int .i64 x)])
   (fun x=>[.row (.slice (some ⟨bo,0,none⟩) N N) 2 1 N (aD .i64 (kQ (tR q W at' p) N (y*W+x))),.blk gb 126 [.int .i64 W,.int .i64 H,.int .i64 gx,.int .i64 gy,.int .i64 gs,.slice Ag gp.length cg],.blk qb 2 [.int .i64 q]]) (fun x=>W-x) 0 (Nat.zero_le _) ⟨rfl,rfl,rfl,rfl,rfl,rfl,rfl,rfl,rfl,rfl,trivial⟩ aA.au ?_
  intro x hx;rcases Nat.lt_or_ge x W with h2|h2
  ·obtain⟨n1,v1,b1,t1⟩:=hat x y (-1) h2 h od;obtain⟨n2,v2,b2,t2⟩:=hat x y 0 h2 h od;obtain⟨n3,v3,b3,t3⟩:=hat x y 1 h2 h od;obtain⟨c1,c2⟩:=aBn (r:=y) h2;have hF:tR q W at' p (y*W+x)=(q*p.getD n1 0+(256-2*q)*p.getD n2 0+q*p.getD n3 0)/256:=by unfold tR;rw[c1,c2,v1,v2,v3,Int.toNat_natCast,Int.toNat_natCast,Int.toNat_natCast]
   have hs:=hset (y*W+x) oo;have hle:=hlen (y*W+x) oo;rw[hF]at hs;have p1:=hp n1 oo;have p2:=hp n2 oo;have p3:=hp n3 oo;have m1:=cT hq p1;have m2:=cT (a:=256-2*q) (b:=p.getD n2 0) (A:=256) oo p2;have m3:=cT hq p3;have iM:∀w0 W' H' t u a b,MS prog w0 W' H' (.binOp .mul t a b u) [.int .i64 (y:Int),.int .i64 (W:Int)] (.int .i64 ((y*W:Nat):Int)) True:=fun _ _ _ _ _ _ _=>cD inferInstance (by show (-9223372036854775808:Int)≤_∧_≤(9223372036854775807:Int);rw[← Int.natCast_mul];omega) (by rw[Int.natCast_mul]);have iA:∀w0 W' H' t u a b,MS prog w0 W' H' (.binOp .add t a b u) [.int .i64 ((y*W:Nat):Int),.int .i64 (x:Int)] (.int .i64 ((y*W+x:Nat):Int)) True:=fun _ _ _ _ _ _ _=>cD inferInstance (by show (-9223372036854775808:Int)≤_∧_≤(9223372036854775807:Int);omega) (by rw[Int.natCast_add]);generalize hk:y*W+x=k at *;generalize hpr:kQ (tR q W at' p) N k=R at *;clear hset hlen hF v1 v2 v3 c1 c2 hat
   subst hN;refine aB;refine kG (0::1::2::3::4::5::6::7::8::9::10::11::12::13::14::15::16::17::18::19::20::21::22::23::24::25::26::27::28::29::30::31::[]) ?_;intro _;refine cE;all_goals refine lb rfl rfl rfl rfl (S:=[.blk gb 126 [.int .i64 W,.int .i64 H,.int .i64 gx,.int .i64 gy,.int .i64 gs,.slice Ag gp.length cg]]) (fun w hw ho=>t1 w ho) ?_
   all_goals rintro v S' ⟨rfl,rfl⟩
   all_goals refine jR
   all_goals refine lb rfl rfl rfl rfl (S:=[.blk gb 126 [.int .i64 W,.int .i64 H,.int .i64 gx,.int .i64 gy,.int .i64 gs,.slice Ag gp.length cg]]) (fun w hw ho=>t2 w ho) ?_
   all_goals rintro v S' ⟨rfl,rfl⟩
   all_goals refine jR
   all_goals refine lb rfl rfl rfl rfl (S:=[.blk gb 126 [.int .i64 W,.int .i64 H,.int .i64 gx,.int .i64 gy,.int .i64 gs,.slice Ag gp.length cg]]) (fun w hw ho=>t3 w ho) ?_
   all_goals rintro v S' ⟨rfl,rfl⟩
   all_goals refine jR
   all_goals
    refine aR (x+1) h2 (by show W-(x+1)<W-x;omega) ⟨rfl,rfl,rfl,rfl,rfl,rfl,rfl,rfl,rfl,by simp[aI],trivial⟩ ?_;rw[show y*W+(x+1)=k+1 by omega,← hs];exact aA.au
  ·obtain rfl:x=W:=oo;refine aB;refine aR (y+1) h (by show H-(y+1)<H-y;omega) ⟨rfl,rfl,rfl,rfl,rfl,rfl,by simp[aI],trivial⟩ ?_;rw[show (y+1)*x=y*x+x by rw[Nat.add_mul,Nat.one_mul]];exact aA.au
 ·obtain rfl:y=H:=oo;rw[show y*W=N by rw[← hN,hl,Nat.mul_comm],aB1];refine aB;exact aM rfl rfl aA.au ⟨_,_,rfl,rfl⟩
theorem bAz(g:bE)(A:Option Addr)(c:Nat)(q:Int)(w:World)(hr:bP w (bB []) A g.p.length c 1 (aD .i64 g.p))(hg:cH g)(hq:0≤q∧q≤85):
  aF prog 168 [.agg (aQ g A c).toArray,.int .i64 q] [] w
   (fun v S'=>∃u,v=.tuple #[u,.int .i64 0]∧tA (lC g q) u S'):=by
 obtain⟨W,H,hW,hH,hW1,hH1,hWH⟩:=oW hg;have hm4:=hg.len;obtain⟨-,hl,hp,hs1,hs2⟩:=hg;unfold lC;have hx:=aMi (q:=q) (W:=g.w) hq hp;have lx:=aD3 q g.w g.p;have ly:=aGh q g.w g.h (oY q g.w g.p);have e0:oY q g.w g.p=rC q W (qM W) g.p:=by rw[hW,aY3 oo hWH]
 have e1:sS q g.w g.h (oY q g.w g.p)=rC q W (tE W H) (rC q W (qM W) g.p):=by rw[← e0,hW,hH,aY4 (H:=H) oo (by rw[aD3];exact hWH)]
 rw[e1]at ly ⊢;rw[e0]at hx lx ly;have hWb:1≤g.w∧g.w≤64:=oo;have hHb:1≤g.h∧g.h≤64:=oo;have hX:∀gb,∀(x y:Nat) (d:Int),x<W→y<H→(-1≤d∧d≤1)→∃n:Nat,qM W x y d=n∧n<W*H∧∀w,aZ [.blk gb 126 (aQ g A c)] w→aF prog 216 [.int .i64 x,.int .i64 y,.int .i64 d,.pointer (some ⟨gb,0,none⟩)] [.blk gb 126 (aQ g A c)] w (fun v S'=>v=.int .i64 n∧S'=[.blk gb 126 (aQ g A c)]):=fun gb x y d h1 h2 h3=>by have hc:=aC3 ((x:Int)+d) (n:=(W:Int)) oo;obtain⟨e,he⟩:∃e:Nat,fZ ((x:Int)+d) W=e:=⟨(fZ ((x:Int)+d) W).toNat,oo⟩;refine⟨y*W+e,by unfold qM;rw[he,Int.natCast_add,Int.natCast_mul],by have:=vX (W:=W) (H:=H) (r:=y) (c:=e) h2 oo;omega,fun w ho=>?_⟩;have:=aQ4 gb g A c x y d w ho oo oo h3 hWb;unfold qM at this;rw[hW,he]at this;rw[Int.natCast_add,Int.natCast_mul];exact this
 have hY:∀gb,∀(x y:Nat) (d:Int),x<W→y<H→(-1≤d∧d≤1)→∃n:Nat,tE W H x y d=n∧n<W*H∧∀w,aZ [.blk gb 126 (aQ g A c)] w→aF prog 218 [.int .i64 x,.int .i64 y,.int .i64 d,.pointer (some ⟨gb,0,none⟩)] [.blk gb 126 (aQ g A c)] w (fun v S'=>v=.int .i64 n∧S'=[.blk gb 126 (aQ g A c)]):=fun gb x y d h1 h2 h3=>by have hc:=aC3 ((y:Int)+d) (n:=(H:Int)) oo;obtain⟨e,he⟩:∃e:Nat,fZ ((y:Int)+d) H=e:=⟨(fZ ((y:Int)+d) H).toNat,oo⟩;refine⟨e*W+x,by unfold tE;rw[he,Int.natCast_add,Int.natCast_mul],by have:=vX (W:=W) (H:=H) (r:=e) (c:=x) oo h1;omega,fun w ho=>?_⟩;have:=aQ5 gb g A c x y d w ho oo oo h3 hWb hHb;unfold tE at this;rw[hW,hH,he]at this;rw[Int.natCast_add,Int.natCast_mul];exact this
 have t1:=fun gb qb w ho hr=>aMj 216 (qM W) gb qb g A c q A c g.p w W H hW hH hW1 hH1 hp hWH hq ho hr (hX gb);have t2:=fun gb qb A2 c2 w ho hr=>aMj 218 (tE W H) gb qb g A c q A2 c2 (rC q W (qM W) g.p) w W H hW hH hW1 hH1 hx.1 (by rw[lx];exact hWH) hq ho hr (hY gb);clear hX hY;generalize rC q W (qM W) g.p=p1 at *;generalize rC q W (tE W H) p1=p2 at *;obtain⟨gw,gh,gx,gy,gs,p⟩:=g;dsimp only at hW hH hr lx ly t1 t2 ⊢;dsimp only[aQ]at *;rw[lx]at t2;rw[lx]at ly;refine aJ func168 rfl ntmps168 rfl ⟨aE,.nil⟩ (fun _=>?_);simp only[aG];refine aB;all_goals try (exfalso;omega)
 rename_i b2 b3 b4 _ _;refine lb rfl rfl rfl rfl (S:=[.blk b2 126 [.int .i64 gw,.int .i64 gh,.int .i64 gx,.int .i64 gy,.int .i64 gs,.slice A p.length c],.blk b3 2 [.int .i64 q]]) (fun w hw ho=>t1 b2 b3 w ho ⟨hr.h.go hw aC.au⟩) ?_;rintro v S' ⟨A1,c1,rfl,rfl⟩;refine aB;refine lb rfl rfl rfl rfl (S:=[.blk b2 126 [.int .i64 gw,.int .i64 gh,.int .i64 gx,.int .i64 gy,.int .i64 gs,.slice A p.length c],.blk b3 2 [.int .i64 q]]) (fun w hw ho=>t2 b2 b3 A1 c1 w ho ⟨Ro.row hw aC.au (by refine cF)⟩) ?_;rintro v S' ⟨A2,c2,rfl,rfl⟩;refine aB;refine eC (S':=[.row (.slice A2 p.length c2) 2 1 p.length (aD .i64 p2)]) aA.au ?_;refine cZ;refine⟨_,rfl,A2,c2,?_,?_⟩
 ·dsimp only[aQ];rw[ly]
 ·dsimp only;rw[ly]
theorem aYe{n:lN}(h:jV n)(d:Int):0≤sT n d∧sT n d≤2621440:=by
 unfold sT;split
 ·decide
 obtain⟨⟨h1,h2⟩,-⟩:=h;have hs:0<n.sig*n.sig:=Int.mul_pos oo oo;have hd:0≤d*d:=by
  rcases Int.lt_or_le d 0 with h|h
  ·exact Int.le_of_lt (Int.mul_pos_of_neg_of_neg h h)
  ·exact Int.mul_nonneg h h
 rw[yY hs];have:0≤(2*(d*d*47274)+n.sig*n.sig)/(2*(n.sig*n.sig)):=Int.ediv_nonneg oo oo;omega
theorem aYf{s d:Int}(h:1≤s)(h1 : -32*s≤d)(h2:d≤32*s):0≤cP (d*d*47274) (s*s) 2∧cP (d*d*47274) (s*s) 2≤48408577:=by
 have hs:0<s*s:=Int.mul_pos oo oo;have hd:0≤d*d:=by
  rcases Int.lt_or_le d 0 with h|h
  ·exact Int.le_of_lt (Int.mul_pos_of_neg_of_neg h h)
  ·exact Int.mul_nonneg h h
 have hm:d*d≤32*s*(32*s):=by
  rcases Int.lt_or_le d 0 with h3|h3
  ·have:=cT (a:=-d) (b:=-d) (A:=32*s) (B:=32*s) oo oo;rw[Int.neg_mul_neg]at this;exact this.2
  ·exact(cT (a:=d) (b:=d) (A:=32*s) (B:=32*s) oo oo).2
 rw[show 32*s*(32*s)=1024*(s*s) by rw[Int.mul_assoc,← Int.mul_assoc s 32 s,Int.mul_comm s 32,Int.mul_assoc,← Int.mul_assoc 32 32];rfl]at hm;rw[yY hs];generalize d*d=D at *;generalize s*s=S at *;exact⟨Int.ediv_nonneg oo oo,Int.ediv_le_of_le_mul oo oo⟩
instance ncheck_cv(n:lN):CV prog 48 [.agg (qZ n).toArray] (.int .i64 0) (jV n):=⟨fun hc w=>by obtain⟨⟨a1,a2⟩,⟨a3,a4⟩,a5,a6⟩:=hc;refine aJ func48 rfl ntmps48 rfl ⟨aE,.nil⟩ (fun _=>?_);simp only[aG];refine aB;refine bK;exact⟨rfl,rfl⟩⟩
theorem aWo(n:lN)(hc:¬jV n)(w:World):aF prog 48 [.agg (qZ n).toArray] [] w (fun v S'=>v=.int .i64 2∧S'=[]):=by unfold jV at hc;refine aJ func48 rfl ntmps48 rfl ⟨aE,.nil⟩ (fun _=>?_);simp only[aG];refine aB;all_goals (refine bK;exact⟨rfl,rfl⟩)
instance widen_cv(n:lN)(r:Int):CV prog 199 [.agg (qZ n).toArray,.int .i64 r] (.agg (qZ (wZ n r)).toArray) ((1≤n.sig∧n.sig≤1048576)∧bG .i64 r):=⟨fun hc w=>by refine aJ func199 rfl ntmps199 rfl ⟨aE,.nil⟩ (fun _=>?_);simp only[aG];unfold wZ;refine aB;refine bK;exact⟨rfl,rfl⟩⟩
instance power_cv(n:lN)(d:Int):CV prog 246 [.agg (qZ n).toArray,.int .i64 d] (.int .i64 (sT n d)) (jV n∧bG .i64 d):=⟨fun ⟨hk,hd⟩ w=>by
 obtain⟨⟨a1,a2⟩,-⟩:=id hk;refine aJ func246 rfl ntmps246 rfl ⟨aE,.nil⟩ (fun _=>?_);simp only[aG];by_cases h:d < -32*n.sig∨32*n.sig<d
 ·rw[show sT n d=2621440 from if_pos h];refine aB;all_goals (refine bK;exact⟨rfl,rfl⟩)
 ·rw[show sT n d=min (cP (d*d*47274) (n.sig*n.sig) 2) 2621440 from if_neg h];have hq:=aYf a1 oo (d:=d) oo;have hD:=gY 33554432 33554432 (a:=d) (b:=d) oo oo;have hS:=cT (a:=n.sig) (b:=n.sig) (A:=1048576) (B:=1048576) oo oo;have hs:0<n.sig*n.sig:=Int.mul_pos oo oo;have iM:=aAv (d*d) 47274 (n.sig*n.sig) 2;generalize cP (d*d*47274) (n.sig*n.sig) 2=q at *;refine aB;all_goals (refine bK;exact⟨rfl,rfl⟩)⟩
instance weightN_cv(n:lN)(d:Int):CV prog 201 [.agg (qZ n).toArray,.int .i64 d] (.int .i64 (sX n d)) (jV n∧bG .i64 d):=⟨fun ⟨hk,hd⟩ w=>by obtain⟨⟨a1,a2⟩,⟨a3,a4⟩,-⟩:=id hk;have hp:=aYe hk d;have he:=aJz (sT n d);have hw:=aOo hk d;refine aJ func201 rfl ntmps201 rfl ⟨aE,.nil⟩ (fun _=>?_);simp only[aG];unfold sX at *;have iP:=power_cv n d;generalize sT n d=p at *;have iE:=exp_cv p;generalize wF p=e at *;have hm:=cT (a:=e) (b:=65536-n.flo) (A:=4294967296) (B:=65536) oo oo;have iM:=muldiv_any e (65536-n.flo) 4294967296 2;generalize cP (e*(65536-n.flo)) 4294967296 2=q at *;refine aB;refine bK;exact⟨rfl,rfl⟩⟩
theorem aTr(g:bE)(A:Option Addr)(c i:Nat)(w:World)(hi:i<g.p.length)(hw:1≤g.w∧g.w≤64)(hl:g.p.length≤4096)(hs:0≤g.st∧g.st≤4096)(hx : -4611686018427387904≤g.x∧g.x≤4611686018427387904)(hy : -4611686018427387904≤g.y∧g.y≤4611686018427387904):
  aF prog 200 [.agg (aQ g A c).toArray,.int .i64 i] [] w (fun v S'=>v=.tuple #[.agg #[.int .i64 (g.x+aY g.w i*g.st),.int .i64 (g.y+aV g.w i*g.st)],.bool true]∧S'=[]):=by
 obtain⟨gw,gh,gx,gy,gs,p⟩:=g;dsimp only at hi hw hl hs hx hy ⊢;dsimp only[aQ];unfold aY aV;have h1:0≤(i:Int)%gw∧(i:Int)%gw≤64:=⟨Int.emod_nonneg _ oo,by have:=Int.emod_lt_of_pos (i:Int) (show 0<gw by omega);omega⟩;have h2:0≤(i:Int)/gw∧(i:Int)/gw≤4096:=⟨Int.ediv_nonneg oo oo,by have:=Int.ediv_le_self gw (Int.natCast_nonneg i);omega⟩;have m1:=cT h1 hs;have m2:=cT h2 hs;refine aJ func200 rfl ntmps200 rfl ⟨aE,.nil⟩ (fun _=>?_);simp only[aG];refine aB;rename_i b2 b4 _ _;refine fJ [.blk b2 126 [.int .i64 gw,.int .i64 gh,.int .i64 gx,.int .i64 gy,.int .i64 gs,.slice A p.length c]] (0::1::2::3::4::5::6::7::8::9::10::11::12::13::14::15::16::17::18::19::20::21::22::[]) aA.au ?_;intro _;refine jR;all_goals (refine bK;exact⟨rfl,rfl⟩)
theorem aXm(p r:List Value)(l l':List cK)(a b c d e a' b' c' d' e':Value)(h:l.length=64)(h':l'.length=64):jD (p++(aO bV l++(a::b::c::d::e::r))) p.length (aO bV l'++[a',b',c',d',e']) (p++(aO bV l'++(a'::b'::c'::d'::e'::r))):=⟨by
 have e1:(aO bV l).length=192:=by rw[kJ,h]
 have e2:(aO bV l').length=192:=by rw[kJ,h']
 refine⟨?_,by simp only[List.length_append,List.length_cons,List.length_nil];omega⟩;rw[List.take_left,show p++(aO bV l++(a::b::c::d::e::r))=(p++(aO bV l++[a,b,c,d,e]))++r by simp];rw[show p.length+(aO bV l'++[a',b',c',d',e']).length=(p++(aO bV l++[a,b,c,d,e])).length by simp only[List.length_append,List.length_cons,List.length_nil];omega,List.drop_left];simp⟩
@[reducible] def prE(p:kE):List Value:=aO bV p.l++[.int .i64 p.first,.int .i64 p.n,.int .i64 p.x,.int .i64 p.y,.int .i64 p.gap]
theorem aXr(gap:Int):prE (eD gap)=aO bV (List.replicate 64 ⟨0,0,0⟩)++[.int .i64 0,.int .i64 0,.int .i64 0,.int .i64 0,.int .i64 (min (max gap 0) 1048576)]:=rfl
def yM:List Value:=List.replicate 197 (.int .i64 0)
def zPr:Value:=.agg yM.toArray
set_option maxRecDepth 100000 in
instance:bF prog 113 197 1576 zPr:=⟨Tryz.t113,by kernel_rfl,by kernel_rfl,rfl,rfl⟩
instance:ZC zPr yM:=⟨rfl⟩
set_option maxRecDepth 100000 in
instance (v:Int):jD yM 196 [.int .i64 v] (aO bV (List.replicate 64 ⟨0,0,0⟩)++[.int .i64 0,.int .i64 0,.int .i64 0,.int .i64 0,.int .i64 v]):=⟨by kernel_rfl,by unfold yM;rw[List.length_replicate];show 196+1≤197;decide⟩
instance:rO prog 110 3:=⟨Tryz.t110,by kernel_rfl,by kernel_rfl⟩
theorem aD8{z:List cK}(h:z.length=64)(a b c d e:Value):(aO bV z++[a,b,c,d,e]).length=197:=by rw[List.length_append,kJ,h];rfl
instance (a b c d e:Value):uG (aO bV (List.replicate 64 ⟨0,0,0⟩)++[a,b,c,d,e]) 197:=⟨aD8 (List.length_replicate ..) a b c d e⟩
instance (a b c d e:Value):lL (aO bV (List.replicate 64 ⟨0,0,0⟩)++[a,b,c,d,e]) 0 197 (aO bV (List.replicate 64 ⟨0,0,0⟩)++[a,b,c,d,e]):=⟨by have h:=aD8 (z:=List.replicate 64 ⟨0,0,0⟩) (List.length_replicate ..) a b c d e;refine⟨?_,h⟩;rw[List.drop_zero,← h,List.take_length]⟩
instance (a b c d e:Value):jD yM 0 (aO bV (List.replicate 64 ⟨0,0,0⟩)++[a,b,c,d,e]) (aO bV (List.replicate 64 ⟨0,0,0⟩)++[a,b,c,d,e]):=⟨by have h:=aD8 (z:=List.replicate 64 ⟨0,0,0⟩) (List.length_replicate ..) a b c d e;have h2:yM.length=197:=List.length_replicate ..;refine⟨?_,by rw[h,h2];decide⟩;rw[Nat.zero_add,h,← h2,List.drop_length,List.take_zero,List.nil_append,List.append_nil]⟩
instance pnew_cv(gap:Int):CV prog 58 [.int .i64 gap] (.agg (prE (eD gap)).toArray) True:=⟨fun _ w=>by refine aJ func58 rfl ntmps58 rfl ⟨aE,.nil⟩ (fun _=>?_);simp only[aG];refine aB;refine bK;exact⟨rfl,rfl⟩⟩
section
variable (g:Nat) (T:TypeId) (p r:List Value) (P:kE)
theorem aYa(w:World)(hown:aZ [.blk g T (p++eE P r)] w)(hok:kU P):
  aF prog 149 [.pointer (some ⟨g,p.length,none⟩)] [.blk g T (p++eE P r)] w
   (fun v S'=>v=.agg (bV (P.l.getD ((P.first+P.n+63)%64) default)).toArray∧S'=[.blk g T (p++eE P r)]):=by
 obtain⟨l,first,m,x,y,gap⟩:=P;obtain⟨h1,h2,h3,h4,h5,h6⟩:=hok;dsimp only at h1 h2 h3 h4 h5 h6 ⊢;dsimp only[eE]at *;have iL:fF (aO bV l) 192:=⟨by rw[kJ,h1]⟩;obtain⟨k,hk⟩:∃k,(first+m+63)%64=k:=⟨_,rfl⟩;have iK:∀w0 W H t u a b,LV prog w0 W H (.binOp .rem t a b u) [.int .i64 ((first:Int)+m+64-1),.int .i64 64] (.int .i64 (k:Int)) True:=fun _ _ _ _ _ _ _=>gH inferInstance oo (congrArg (Value.int .i64) oo);have iC:=aJp (e:=bV) l k oo (.int .i64 first::.int .i64 m::.int .i64 x::.int .i64 y::.int .i64 gap::r);rw[hk];refine aJ func149 rfl ntmps149 rfl hown (fun _=>?_);simp only[aG];refine aB;refine fJ [.blk g T (p++(aO bV l++(.int .i64 first::.int .i64 m::.int .i64 x::.int .i64 y::.int .i64 gap::r)))] (0::1::2::3::4::5::6::7::8::9::10::11::12::13::14::15::16::17::[]) aA.au ?_;intro _;refine cE;all_goals (refine eC (S':=[.blk g T (p++(aO bV l++(.int .i64 first::.int .i64 m::.int .i64 x::.int .i64 y::.int .i64 gap::r)))]) aA.au ?_;refine cZ;exact⟨rfl,rfl⟩)
theorem aYc(w:World)(hown:aZ [.blk g T (p++eE P r)] w)(hok:kU P):
  aF prog 110 [.pointer (some ⟨g,p.length,none⟩)] [.blk g T (p++eE P r)] w
   (fun v S'=>v=.int .i64 P.n∧S'=[.blk g T (p++eE P r)]):=by
 obtain⟨l,first,m,x,y,gap⟩:=P;obtain⟨h1,h2,h3,h4,h5,h6⟩:=hok;dsimp only at h1 ⊢;dsimp only[eE]at *;have iL:fF (aO bV l) 192:=⟨by rw[kJ,h1]⟩;refine aJ func110 rfl ntmps110 rfl hown (fun _=>?_);simp only[aG];refine aB;exact aM rfl rfl aA.au ⟨rfl,rfl⟩
theorem aY7(w:World)(hown:aZ [.blk g T (p++eE P r)] w)(hok:kU P):
  aF prog 118 [.pointer (some ⟨g,p.length,none⟩)] [.blk g T (p++eE P r)] w
   (fun v S'=>v=.tuple #[]∧S'=[.blk g T (p++eE (eD P.gap) r)]):=by
 have iN:=pnew_cv P.gap;rw[aXr]at iN;obtain⟨l,first,m,x,y,gap⟩:=P;obtain⟨h1,h2,h3,h4,h5,h6⟩:=hok;dsimp only at h1 iN ⊢;dsimp only[eE,eD]at *;have iL:fF (aO bV l) 192:=⟨by rw[kJ,h1]⟩;have hz:(List.replicate 64 (⟨0,0,0⟩:cK)).length=64:=List.length_replicate ..;generalize List.replicate 64 (⟨0,0,0⟩:cK)=z at *;have iZ:∀a b c d e:Value,uG (aO bV z++[a,b,c,d,e]) 197:=fun a b c d e=>⟨aD8 hz a b c d e⟩;have iO:=fun a b c d e=>aXm p r l z (.int .i64 first) (.int .i64 m) (.int .i64 x) (.int .i64 y) (.int .i64 gap) a b c d e h1 hz;refine aJ func118 rfl ntmps118 rfl hown (fun _=>?_);simp only[aG];refine aB;exact nN rfl aA.au ⟨rfl,rfl⟩
theorem aYd(dx dy:Int)(w:World)(hown:aZ [.blk g T (p++eE P r)] w)(hok:kU P):
  aF prog 117 [.pointer (some ⟨g,p.length,none⟩),.int .i64 dx,.int .i64 dy] [.blk g T (p++eE P r)] w
   (fun v S'=>v=.bool (nQ P dx dy).2∧S'=[.blk g T (p++eE (nQ P dx dy).1 r)]):=by
 obtain⟨l,first,m,x,y,gap⟩:=P;obtain⟨h1,h2,h3,h4,h5,h6⟩:=hok;dsimp only at h1 h4 ⊢;have iL:fF (aO bV l) 192:=⟨by rw[kJ,h1]⟩;unfold nQ wP;dsimp only[eE]at *;refine aJ func117 rfl ntmps117 rfl hown (fun _=>?_);simp only[aG];by_cases c1:(dx < -16777216∨16777216<dx)∨dy < -16777216∨16777216<dy
 ·rw[if_pos c1];refine aB;all_goals first
   | exact aM rfl rfl aA.au ⟨rfl,rfl⟩
   | (exfalso;omega)
 ·rw[if_neg c1];by_cases c2:(x+dx < -16777216∨16777216<x+dx)∨y+dy < -16777216∨16777216<y+dy
  ·rw[if_pos c2];refine aB;all_goals first
    | exact aM rfl rfl aA.au ⟨rfl,rfl⟩
    | (exfalso;omega)
  ·rw[if_neg c2];refine aB;all_goals first
    | exact aM rfl rfl aA.au ⟨rfl,rfl⟩
    | (exfalso;omega)
end
def zU:List Int:=[65536,68438,71468,74632,77936,81387,84990,88753,92682,96786,101071,105546,110218,115098,120194,125515]
theorem bBg:∀i,i<16→65536≤zU.getD i 0∧zU.getD i 0≤131072:=by decide
instance sixteenth_cv(p:Int):CV prog 269 [.int .i64 p] (.int .i64 (zU.getD p.toNat 0)) (0≤p∧p<16):=⟨fun hc w=>by
 obtain⟨k,rfl⟩:∃k:Nat,p=k:=⟨p.toNat,oo⟩;rw[Int.toNat_natCast];have hk:k<16:=oo;have h0:((k:Nat):Int)=0∨((k:Nat):Int)=1∨((k:Nat):Int)=2∨((k:Nat):Int)=3∨((k:Nat):Int)=4∨((k:Nat):Int)=5∨((k:Nat):Int)=6∨((k:Nat):Int)=7∨((k:Nat):Int)=8∨((k:Nat):Int)=9∨((k:Nat):Int)=10∨((k:Nat):Int)=11∨((k:Nat):Int)=12∨((k:Nat):Int)=13∨((k:Nat):Int)=14∨((k:Nat):Int)=15:=oo;have hq:∃q:Int,((k:Nat):Int)=q∧q.toNat=k:=⟨_,rfl,Int.toNat_natCast k⟩;obtain⟨q,hq1,hq2⟩:=hq;rw[hq1]at h0 ⊢;rw[← hq2];clear hq1 hq2 hc;refine aJ func269 rfl ntmps269 rfl ⟨aE,.nil⟩ (fun _=>?_);simp only[aG];rcases h0 with rfl|rfl|rfl|rfl|rfl|rfl|rfl|rfl|rfl|rfl|rfl|rfl|rfl|rfl|rfl|rfl;all_goals refine aB
 all_goals exact aM rfl rfl (.nil _) ⟨rfl,rfl⟩⟩
instance wmost_cv(z s p:Int):CV prog 248 [.agg (cA z).toArray,.int .i64 s,.int .i64 p] (.bool (aAt z s p)) ((0≤z∧z≤1152921504606846976)∧(0≤s∧s≤1073741824)∧0≤p∧p≤640):=⟨fun ⟨hz,hs,hp⟩ w=>by
 obtain⟨K,hK⟩:∃K:Nat,p/16=K:=⟨(p/16).toNat,oo⟩;have hK40:K≤40:=oo;have hd:∀i,i≤K→0≤jX z i∧jX z i≤1267650600228229401496703205376:=fun i hi=>by
  rw[xP];have e:((2:Int)^i)=((2^i:Nat):Int):=by rw[Int.natCast_pow];rfl
  have h5:=Nat.pow_le_pow_right (show 0<2 by decide) (show i≤40 by omega);have h4:=cT (a:=z) (b:=2^i) hz ⟨by rw[e];exact Int.natCast_nonneg _,(by rw[e];omega:(2:Int)^i≤1099511627776)⟩;omega
 have hM:aAt z s p=(decide (jX z K≤s*65536)&&decide (jX z K*zU.getD (p%16).toNat 0≤s*4294967296)):=by unfold aAt;rw[hK,Int.toNat_natCast,xP];rfl
 have ht:=bBg (p%16).toNat oo;have hdK:=hd K (Nat.le_refl _);rw[hM];refine aJ func248 rfl ntmps248 rfl ⟨aE,.nil⟩ (fun _=>?_);simp only[aG];refine aB;rename_i b3 b7;rw[hK];refine cG (X:=Nat) (fun i=>i≤K) (fun i=>[(1,.int .i64 s),(2,.int .i64 p),(7,.pointer (some ⟨b7,0,none⟩)),(15,.int .i64 K),(16,.int .i64 i)]) (fun i=>[.blk b7 266 (cA (jX z i))]) (fun i=>K-i) 0 (Nat.zero_le _) ⟨rfl,rfl,rfl,rfl,rfl,trivial⟩ (by show aA [.blk b7 266 (cA z)] _;exact aA.au) ?_;intro i hi;rcases Nat.lt_or_ge i K with h|h
 ·have h1:=hd i hi;have e:jX z (i+1)=jX z i+jX z i:=rfl;generalize jX z i=x at *;refine aB;refine aR (i+1) h (by show K-(i+1)<K-i;omega) ⟨rfl,rfl,rfl,rfl,by simp[aI],trivial⟩ ?_;rw[e];exact aA.au
 ·obtain rfl:i=K:=oo;clear hd hM;generalize jX z i=a at *;have hcm:=aC4 a (s*65536);have hm:=cT (a:=a) (b:=zU.getD (p%16).toNat 0) (A:=1267650600228229401496703205376) (B:=131072) hdK oo;have iD:∀c:a≤s*65536,CV prog 229 [.agg (cA a).toArray,.int .i64 1,.int .i64 0] (.tuple #[.int .i64 a,.int .i64 0]) True:=fun c=>⟨fun _ w=>by
   have e1:cP a 1 0=a:=by rw[aAi od,Int.ediv_one]
   have:=(aEy a 1 0).h (by rw[e1];refine⟨oo,oo,oo,oo,oo⟩) w;rw[e1]at this;exact this⟩
  have iS:=sixteenth_cv (p%16);generalize zU.getD (p%16).toNat 0=t at *;by_cases hc:a≤s*65536
  ·have iD2:=iD hc;rw[decide_eq_true hc,Bool.true_and];have hcm2:=aC4 (a*t) (s*4294967296);refine aB;all_goals first
    | (exfalso;omega)
    | (refine bK
       refine ⟨congrArg Value.bool ?_, rfl⟩;rw [Bool.eq_iff_iff];simp only [decide_eq_true_eq];omega)
  ·rw[decide_eq_false hc,Bool.false_and];refine aB;all_goals first
    | (exfalso;omega)
    | (refine bK;exact⟨rfl,rfl⟩)⟩
instance surprise_cv(z s:Int):CV prog 205 [.agg (cA z).toArray,.int .i64 s] (.int .i64 (tW z s)) ((0<z∧z≤1152921504606846976)∧(0<s∧s≤1073741824)):=⟨fun ⟨hz,hs⟩ w=>by
 rw[show tW z s=qF z s 641 0 640 from if_neg oo];have iY:=fun m=>wmost_cv z s m;obtain⟨f,hf⟩:∃f:Int→Bool,∀m,aAt z s m=f m:=⟨_,fun _=>rfl⟩;refine aJ func205 rfl ntmps205 rfl ⟨aE,.nil⟩ (fun _=>?_);simp only[aG];refine aB;all_goals try (exfalso;omega)
 rename_i b2 _ _;refine cG (X:=Nat×Int×Int) (fun q=>qF z s q.1 q.2.1 q.2.2=qF z s 641 0 640∧(q.2.2-q.2.1+1≤q.1)∧0≤q.2.1∧q.2.2≤640∧q.2.1≤q.2.2)
  (fun q=>[(1,.int .i64 s),(2,.pointer (some ⟨b2,0,none⟩)),(5,.int .i64 q.2.1),(6,.int .i64 q.2.2)])
  (fun _=>[.blk b2 266 (cA z)]) (fun q=>q.1) (641,0,640) ⟨rfl,by dsimp only;omega,by dsimp only;omega,by dsimp only;omega,by dsimp only;omega⟩ ⟨rfl,rfl,rfl,rfl,trivial⟩ aA.au ?_
 rintro⟨k,lo,hi⟩ ⟨e1,e2,e3,e4,e5⟩;dsimp only at e1 e2 e3 e4 e5 ⊢;rcases Int.lt_or_le lo hi with h|h
 ·obtain⟨k,rfl⟩:∃k',k=k'+1:=⟨k-1,oo⟩;rw[qF,if_pos h]at e1;obtain⟨m,hm⟩:∃m,(lo+hi+1)/2=m:=⟨_,rfl⟩;rw[hm,hf]at e1;have iY2:=iY m;rw[hf]at iY2;have hmb:lo<m∧m≤hi:=oo;have iQ:∀w0 W H t u x y,MS prog w0 W H (.binOp .quo t x y u) [.int .i64 (lo+hi+1),.int .i64 2] (.int .i64 m) True:=fun _ _ _ _ _ _ _=>cD inferInstance (by refine⟨oo,oo,oo,oo⟩) (congrArg (Value.int .i64) hm);cases hb:f m
  ·rw[hb]at iY2 e1;rw[if_neg od]at e1;refine aB;all_goals exact aR (k,lo,m-1) ⟨e1,by dsimp only;omega,by dsimp only;omega,by dsimp only;omega,by dsimp only;omega⟩ (by show k<k+1;omega) ⟨rfl,rfl,rfl,rfl,trivial⟩ aA.au
  ·rw[hb]at iY2 e1;rw[if_pos rfl]at e1;refine aB;all_goals exact aR (k,m,hi) ⟨e1,by dsimp only;omega,by dsimp only;omega,by dsimp only;omega,by dsimp only;omega⟩ (by show k<k+1;omega) ⟨rfl,rfl,rfl,rfl,trivial⟩ aA.au
 ·obtain rfl:lo=hi:=oo;have e6:qF z s k lo lo=lo:=by
   cases k with
   | zero=>rfl
   | succ k=>rw[qF,if_neg oo]
  rw[← e1,e6];refine aB;refine bK;exact⟨rfl,rfl⟩⟩
instance rcheck_cv(c:dF):CV prog 46 [.agg (aH9 c).toArray] (.int .i64 (if mP c then 0 else 2)) True:=⟨fun _ w=>by
 refine aJ func46 rfl ntmps46 rfl ⟨aE,.nil⟩ (fun n=>?_);simp only[aG];by_cases hk:mP c
 ·rw[if_pos hk];unfold mP at hk;refine aB;all_goals (refine bK;exact⟨rfl,rfl⟩)
 ·rw[if_neg hk];unfold mP at hk;refine aB;all_goals (refine bK;exact⟨rfl,rfl⟩)⟩
instance wcheck_cv(c:dF):CV prog 47 [.agg (aAu c).toArray] (.int .i64 (if lZ c then 0 else 2)) True:=⟨fun _ w=>by
 refine aJ func47 rfl ntmps47 rfl ⟨aE,.nil⟩ (fun n=>?_);simp only[aG];by_cases hk:lZ c
 ·rw[if_pos hk];unfold lZ at hk;refine aB;all_goals (refine bK;exact⟨rfl,rfl⟩)
 ·rw[if_neg hk];unfold lZ at hk;refine aB;all_goals (refine bK;exact⟨rfl,rfl⟩)⟩
instance within_cv(x y:Int):CV prog 62 [.agg #[.int .i64 x,.int .i64 y]] (.bool (kT x y)) True:=⟨fun _ w=>by refine aJ func62 rfl ntmps62 rfl ⟨aE,.nil⟩ (fun n=>?_);simp only[aG];unfold kT;refine aB;all_goals exact aM rfl rfl (.nil _) ⟨(congrArg Value.bool (by rw[Bool.eq_iff_iff];simp only[decide_eq_true_eq,Bool.and_eq_true,Bool.or_eq_true,Bool.not_eq_true,beq_iff_eq,bne_iff_ne,true_iff,iff_true,false_iff,iff_false,Bool.false_eq_true,not_false_eq_true,ne_eq];omega)),rfl⟩⟩
instance gmove_cv(g:bE)(A:Option Addr)(c:Nat)(dx dy:Int):CV prog 169 [.agg (aQ g A c).toArray,.int .i64 dx,.int .i64 dy] (.agg (aQ (jQ g dx dy) A c).toArray) True:=⟨fun _ w=>by refine aJ func169 rfl ntmps169 rfl ⟨aE,.nil⟩ (fun n=>?_);simp only[aG];unfold jQ;refine aB;refine bK;exact⟨rfl,rfl⟩⟩
