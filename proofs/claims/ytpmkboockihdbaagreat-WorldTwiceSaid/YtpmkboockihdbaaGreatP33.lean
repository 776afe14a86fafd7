import Derived.Test.YtpmkboockihdbaaGreatP32
set_option maxHeartbeats 512000000
set_option maxRecDepth 4000
set_option linter.unusedVariables false
set_option linter.unusedSimpArgs false
namespace Go.Proofs.YtpmkboockihdbaaGreat
open Go.RowKit _root_.Go.Proofs.Tryz
theorem aNg{n:jZ}(h:gW n)(d:Int):0≤oE n d∧oE n d≤2621440:=by
 unfold oE;split
 ·decide
 obtain⟨⟨h1,h2⟩,-⟩:=h;have hs:0<n.sig*n.sig:=Int.mul_pos oo oo;have hd:0≤d*d:=by
  rcases Int.lt_or_le d 0 with h|h
  ·exact Int.le_of_lt (Int.mul_pos_of_neg_of_neg h h)
  ·exact Int.mul_nonneg h h
 rw[vM hs];have:0≤(2*(d*d*47274)+n.sig*n.sig)/(2*(n.sig*n.sig)):=Int.ediv_nonneg oo oo;omega
theorem aNh{s d:Int}(h:1≤s)(h1 : -32*s≤d)(h2:d≤32*s):0≤cS (d*d*47274) (s*s) 2∧cS (d*d*47274) (s*s) 2≤48408577:=by
 have hs:0<s*s:=Int.mul_pos oo oo;have hd:0≤d*d:=by
  rcases Int.lt_or_le d 0 with h|h
  ·exact Int.le_of_lt (Int.mul_pos_of_neg_of_neg h h)
  ·exact Int.mul_nonneg h h
 have hm:d*d≤32*s*(32*s):=by
  rcases Int.lt_or_le d 0 with h3|h3
  ·have:=cN (a:=-d) (b:=-d) (A:=32*s) (B:=32*s) oo oo;rw[Int.neg_mul_neg]at this;exact this.2
  ·exact(cN (a:=d) (b:=d) (A:=32*s) (B:=32*s) oo oo).2
 rw[show 32*s*(32*s)=1024*(s*s) by rw[Int.mul_assoc,← Int.mul_assoc s 32 s,Int.mul_comm s 32,Int.mul_assoc,← Int.mul_assoc 32 32];rfl]at hm;rw[vM hs];generalize d*d=D at *;generalize s*s=S at *;exact⟨Int.ediv_nonneg oo oo,Int.ediv_le_of_le_mul oo oo⟩
attribute [local irreducible] OJ J bO Code.wpIn wpListIn Oper.wpIn bodyPost CallsIn aF
instance ncheck_cv(n:jZ):CV prog 68 [.agg (kG n).toArray] (.int .i64 0) (gW n):=⟨fun hc w=>by obtain⟨⟨a1,a2⟩,⟨a3,a4⟩,a5,a6⟩:=hc;refine aJ func68 rfl ntmps68 rfl ⟨aE,.nil⟩ (fun _=>?_);simp only[aG];refine aB;refine bI;exact⟨rfl,rfl⟩⟩
theorem aX6(n:jZ)(hc:¬gW n)(w:World):aF prog 68 [.agg (kG n).toArray] [] w (fun v S'=>v=.int .i64 2∧S'=[]):=by unfold gW at hc;refine aJ func68 rfl ntmps68 rfl ⟨aE,.nil⟩ (fun _=>?_);simp only[aG];refine aB;all_goals (refine bI;exact⟨rfl,rfl⟩)
instance widen_cv(n:jZ)(r:Int):CV prog 58 [.agg (kG n).toArray,.int .i64 r] (.agg (kG (qM n r)).toArray) ((1≤n.sig∧n.sig≤1048576)∧aP .i64 r):=⟨fun hc w=>by refine aJ func58 rfl ntmps58 rfl ⟨aE,.nil⟩ (fun _=>?_);simp only[aG];unfold qM;refine aB;refine bI;exact⟨rfl,rfl⟩⟩
instance power_cv(n:jZ)(d:Int):CV prog 120 [.agg (kG n).toArray,.int .i64 d] (.int .i64 (oE n d)) (gW n∧aP .i64 d):=⟨fun ⟨hk,hd⟩ w=>by
 obtain⟨⟨a1,a2⟩,-⟩:=id hk;refine aJ func120 rfl ntmps120 rfl ⟨aE,.nil⟩ (fun _=>?_);simp only[aG];by_cases h:d < -32*n.sig∨32*n.sig<d
 ·rw[show oE n d=2621440 from if_pos h];refine aB;all_goals (refine bI;exact⟨rfl,rfl⟩)
 ·rw[show oE n d=min (cS (d*d*47274) (n.sig*n.sig) 2) 2621440 from if_neg h];have hq:=aNh a1 oo (d:=d) oo;have hD:=fU 33554432 33554432 (a:=d) (b:=d) oo oo;have hS:=cN (a:=n.sig) (b:=n.sig) (A:=1048576) (B:=1048576) oo oo;have hs:0<n.sig*n.sig:=Int.mul_pos oo oo;have iM:=aBh (d*d) 47274 (n.sig*n.sig) 2;generalize cS (d*d*47274) (n.sig*n.sig) 2=q at *;refine aB;all_goals (refine bI;exact⟨rfl,rfl⟩)⟩
instance weightN_cv(n:jZ)(d:Int):CV prog 59 [.agg (kG n).toArray,.int .i64 d] (.int .i64 (oM n d)) (gW n∧aP .i64 d):=⟨fun ⟨hk,hd⟩ w=>by obtain⟨⟨a1,a2⟩,⟨a3,a4⟩,-⟩:=id hk;have hp:=aNg hk d;have he:=aFt (oE n d);have hw:=aIl hk d;refine aJ func59 rfl ntmps59 rfl ⟨aE,.nil⟩ (fun _=>?_);simp only[aG];unfold oM at *;have iP:=power_cv n d;generalize oE n d=p at *;have iE:=exp_cv p;generalize oU p=e at *;have hm:=cN (a:=e) (b:=65536-n.flo) (A:=4294967296) (B:=65536) oo oo;have iM:=muldiv_any e (65536-n.flo) 4294967296 2;generalize cS (e*(65536-n.flo)) 4294967296 2=q at *;refine aB;refine bI;exact⟨rfl,rfl⟩⟩
theorem aUd(g:bE)(A:Option Addr)(c i:Nat)(w:World)(hi:i<g.p.length)(hw:1≤g.w∧g.w≤64)(hl:g.p.length≤4096)(hs:0≤g.st∧g.st≤4096)(hx : -4611686018427387904≤g.x∧g.x≤4611686018427387904)(hy : -4611686018427387904≤g.y∧g.y≤4611686018427387904):
  aF prog 26 [.agg (aQ g A c).toArray,.int .i64 i] [] w (fun v S'=>v=.tuple #[.agg #[.int .i64 (g.x+aU g.w i*g.st),.int .i64 (g.y+aT g.w i*g.st)],.bool true]∧S'=[]):=by
 obtain⟨gw,gh,gx,gy,gs,p⟩:=g;dsimp only at hi hw hl hs hx hy ⊢;dsimp only[aQ];unfold aU aT;have h1:0≤(i:Int)%gw∧(i:Int)%gw≤64:=⟨Int.emod_nonneg _ oo,by have:=Int.emod_lt_of_pos (i:Int) (show 0<gw by omega);omega⟩;have h2:0≤(i:Int)/gw∧(i:Int)/gw≤4096:=⟨Int.ediv_nonneg oo oo,by have:=Int.ediv_le_self gw (Int.natCast_nonneg i);omega⟩;have m1:=cN h1 hs;have m2:=cN h2 hs;refine aJ func26 rfl ntmps26 rfl ⟨aE,.nil⟩ (fun _=>?_);simp only[aG];refine aB;rename_i b2 b4 _ _;refine fL [.blk b2 37 [.int .i64 gw,.int .i64 gh,.int .i64 gx,.int .i64 gy,.int .i64 gs,.slice A p.length c]] (0::1::2::3::4::5::6::7::8::9::10::11::12::13::14::15::16::17::18::19::20::21::22::[]) aA.au ?_;intro _;refine jY;all_goals (refine bI;exact⟨rfl,rfl⟩)
instance rcheck_cv(c:dJ):CV prog 66 [.agg (aHy c).toArray] (.int .i64 (if nU c then 0 else 2)) True:=⟨fun _ w=>by
 refine aJ func66 rfl ntmps66 rfl ⟨aE,.nil⟩ (fun n=>?_);simp only[aG];by_cases hk:nU c
 ·rw[if_pos hk];unfold nU at hk;refine aB;all_goals (refine bI;exact⟨rfl,rfl⟩)
 ·rw[if_neg hk];unfold nU at hk;refine aB;all_goals (refine bI;exact⟨rfl,rfl⟩)⟩
instance wcheck_cv(c:dJ):CV prog 67 [.agg (aBg c).toArray] (.int .i64 (if nA c then 0 else 2)) True:=⟨fun _ w=>by
 refine aJ func67 rfl ntmps67 rfl ⟨aE,.nil⟩ (fun n=>?_);simp only[aG];by_cases hk:nA c
 ·rw[if_pos hk];unfold nA at hk;refine aB;all_goals (refine bI;exact⟨rfl,rfl⟩)
 ·rw[if_neg hk];unfold nA at hk;refine aB;all_goals (refine bI;exact⟨rfl,rfl⟩)⟩
instance within_cv(x y:Int):CV prog 79 [.agg #[.int .i64 x,.int .i64 y]] (.bool (lP x y)) True:=⟨fun _ w=>by refine aJ func79 rfl ntmps79 rfl ⟨aE,.nil⟩ (fun n=>?_);simp only[aG];unfold lP;refine aB;all_goals exact aK rfl rfl (.nil _) ⟨(congrArg Value.bool (by rw[Bool.eq_iff_iff];simp only[decide_eq_true_eq,Bool.and_eq_true,Bool.or_eq_true,Bool.not_eq_true,beq_iff_eq,bne_iff_ne,true_iff,iff_true,false_iff,iff_false,Bool.false_eq_true,not_false_eq_true,ne_eq];omega)),rfl⟩⟩
instance gmove_cv(g:bE)(A:Option Addr)(c:Nat)(dx dy:Int):CV prog 196 [.agg (aQ g A c).toArray,.int .i64 dx,.int .i64 dy] (.agg (aQ (kP g dx dy) A c).toArray) True:=⟨fun _ w=>by refine aJ func196 rfl ntmps196 rfl ⟨aE,.nil⟩ (fun n=>?_);simp only[aG];unfold kP;refine aB;refine bI;exact⟨rfl,rfl⟩⟩
theorem aB5(g:bE)(A:Option Addr)(c:Nat)(w:World)(hr:bF w (aV []) A g.p.length c 1 (aC .i64 g.p))(hp:dI g.p)(hm:g.p.length≤4096):
  aF prog 185 [.agg (aQ g A c).toArray] [] w (fun v S'=>v=.int .i64 (aM g.p g.p.length)∧S'=[]):=by
 obtain⟨gw,gh,gx,gy,gs,p⟩:=g;dsimp only at hr hp hm ⊢;dsimp only[aQ];have hsi:=fun n hn=>pG (l:=p) (B:=1073741824) hp n hn;refine aJ func185 rfl ntmps185 rfl ⟨aE,.nil⟩ (fun n=>?_);simp only[aG];refine aB;refine bT (X:=Nat) (fun i=>i≤p.length) (fun i=>[(3,.int .i64 (aM p i)),(7,.slice A p.length c),(8,.int .i64 p.length),(9,.int .i64 i)]) (fun _=>[]) (fun i=>p.length-i) 0 (Nat.zero_le _) ⟨rfl,rfl,rfl,rfl,trivial⟩ (.nil _) ?_;intro i hi;rcases Nat.lt_or_ge i p.length with h|h
 ·obtain⟨bA,oA,rfl,hRA⟩:=hr.at_ (by omega:0<p.length);have e:aM p (i+1)=aM p i+p.getD i 0:=rfl;have hs1:=hsi i hi;have hpi:=hp i h;clear hsi;generalize aM p i=s at *;refine aB;exact aN (i+1) h (by show p.length-(i+1)<p.length-i;omega) ⟨by rw[e];rfl,rfl,rfl,by simp[aH],trivial⟩ (.nil _)
 ·obtain rfl:i=p.length:=oo;refine aB;exact aK rfl rfl (.nil _) ⟨rfl,rfl⟩
theorem aMq(g:bE)(A:Option Addr)(c:Nat)(w:World)(hr:bF w (aV []) A g.p.length c 1 (aC .i64 g.p))(hp:dI g.p)(hn:0<g.p.length∧g.p.length≤4096)(hz:0<aM g.p g.p.length):
  aF prog 197 [.agg (aQ g A c).toArray] [] w
   (fun v S'=>∃u,v=.tuple #[u,.int .i64 0]∧tT (cC g) u S'):=by
 have hG:=aB5 g A c;obtain⟨gw,gh,gx,gy,gs,p⟩:=g;unfold cC;dsimp only at hr hp hn hz hG ⊢;dsimp only[aQ]at *;have hsN:=pG (l:=p) (B:=1073741824) hp p.length (Nat.le_refl _);have hge:=fun i (hi:i<p.length)=>aE6 (l:=p) (B:=1073741824) hp p.length (Nat.le_refl _) hi;have hNL:mF p=cA (fun i=>p.getD i 0*1073741824/aM p p.length) p.length:=if_neg oo;have hr0:=hr;obtain⟨bA,oA,rfl,hRA⟩:=hr.at_ hn.1;refine aJ func197 rfl ntmps197 rfl ⟨aE,.nil⟩ (fun n=>?_);simp only[aG];refine aB;refine bQ rfl rfl rfl (fun w hw=>hG w ⟨hr0.h.go hw (aD.nil _)⟩ hp hn.2) ?_;refine aB;rename_i b1 b2 _;refine lf rfl rfl rfl (S:=[]) (fun w' hw' ho=>aJz (some ⟨bA,oA,none⟩) c p w' ⟨hr0.h.go hw' (aD.nil _)⟩ oo) ?_;rintro v S' ⟨A2,c2,rfl,rfl⟩;generalize aM p p.length=z at *;obtain⟨g,hg⟩:∃g:Nat→Int,(fun i=>p.getD i 0*1073741824/z)=g:=⟨_,rfl⟩;rw[hg]at hNL;refine aB;refine bT (X:=Nat) (fun i=>i≤p.length) (fun i=>[(1,.pointer (some ⟨b1,0,none⟩)),(2,.pointer (some ⟨b2,0,none⟩)),(4,.int .i64 z),(17,.slice A2 p.length c2),(18,.int .i64 p.length),(19,.int .i64 i)])
  (fun i=>[.row (.slice A2 p.length c2) 2 1 p.length (aC .i64 (rA g p i)),.blk b2 37 kD,.blk b1 37 [.int .i64 gw,.int .i64 gh,.int .i64 gx,.int .i64 gy,.int .i64 gs,.slice A2 p.length c2]]) (fun i=>p.length-i) 0 (Nat.zero_le _) ⟨rfl,rfl,rfl,rfl,rfl,rfl,trivial⟩ (by show aA [.row (.slice A2 p.length c2) 2 1 p.length (aC .i64 p),_,_] _;exact aA.au) ?_
 intro i hi;rcases Nat.lt_or_ge i p.length with h|h
 ·have hml:=aMd g hi;have hmg:=aMc g h;have lJ:=aMe g h;have hpi:=hp i h;have hgi:=hge i h;have hgz:g i=p.getD i 0*1073741824/z:=by rw[← hg]
  have iD:=muldiv_any (p.getD i 0) 1073741824 z 0;rw[aB0 hz,← hgz]at iD;obtain⟨R,hR⟩:∃R,rA g p i=R:=⟨_,rfl⟩;rw[hR]at hml hmg lJ ⊢;have iE:rM (aC .i64 R) i (.int .i64 (p.getD i 0)) True:=⟨fun _=>by rw[← hmg];exact(inferInstance:rM (aC .i64 R) i (.int .i64 (R.getD i 0)) (i<R.length)).h oo⟩;refine uI (A:=A2) (m:=p.length) (cc:=c2) oo (fun g2 hg2=>?_);subst hg2;clear hge hG;generalize p.getD i 0=pi at *;refine aB;refine fL [] (0::1::2::3::4::5::6::7::8::9::10::[]) (.nil _) ?_;intro _;refine gP;all_goals
   refine aN (i+1) h (by show p.length-(i+1)<p.length-i;omega) ⟨rfl,rfl,rfl,rfl,rfl,by simp[aH],trivial⟩ ?_;rw[← lJ];exact aA.au
 ·obtain rfl:i=p.length:=oo;rw[aMb];refine aB;refine eD (S':=[.row (.slice A2 p.length c2) 2 1 p.length (aC .i64 (cA g p.length))]) aA.au ?_;refine cY;refine⟨_,rfl,A2,c2,?_,?_⟩
  ·dsimp only[aQ];rw[hNL,eP]
  ·dsimp only;rw[hNL,eP]
instance clamp_cv(i n:Int):CV prog 248 [.int .i64 i,.int .i64 n] (.int .i64 (gR i n)) ((-1000000≤i∧i≤1000000)∧0≤n∧n≤1000000):=⟨fun hc w=>by refine aJ func248 rfl ntmps248 rfl ⟨aE,.nil⟩ (fun n=>?_);simp only[aG];unfold gR;refine aB;refine bI;exact⟨rfl,rfl⟩⟩
def rQ(W:Int)(x y d:Int):Int:=y*W+gR (x+d) W
def tZ(W H:Int)(x y d:Int):Int:=gR (y+d) H*W+x
theorem aCq(i:Int){n:Int}(h:1≤n):0≤gR i n∧gR i n≤n-1:=by unfold gR;omega
theorem aQu(gb:Nat)(g:bE)(A:Option Addr)(c:Nat)(x y d:Int)(w:World)(hown:aZ [.blk gb 37 (aQ g A c)] w)(hx:0≤x∧x≤64)(hy:0≤y∧y≤64)(hd : -1≤d∧d≤1)(hw:1≤g.w∧g.w≤64):
  aF prog 247 [.int .i64 x,.int .i64 y,.int .i64 d,.pointer (some ⟨gb,0,none⟩)] [.blk gb 37 (aQ g A c)] w (fun v S'=>v=.int .i64 (rQ g.w x y d)∧S'=[.blk gb 37 (aQ g A c)]):=by
 obtain⟨gw,gh,gx,gy,gs,p⟩:=g;dsimp only at hw ⊢;dsimp only[aQ]at *;have hm:=cN (a:=y) (b:=gw) (A:=64) (B:=64) oo oo;have hc:=aCq (x+d) hw.1;have iC:=clamp_cv (x+d) gw;unfold rQ;generalize gR (x+d) gw=e at *;refine aJ func247 rfl ntmps247 rfl hown (fun n=>?_);simp only[aG];refine aB;refine kC (0::1::2::3::4::5::6::7::8::9::10::11::[]) ?_;intro _;refine jY;all_goals exact aK rfl rfl aA.au ⟨rfl,rfl⟩
theorem aQv(gb:Nat)(g:bE)(A:Option Addr)(c:Nat)(x y d:Int)(w:World)(hown:aZ [.blk gb 37 (aQ g A c)] w)(hx:0≤x∧x≤64)(hy:0≤y∧y≤64)(hd : -1≤d∧d≤1)(hw:1≤g.w∧g.w≤64)(hh:1≤g.h∧g.h≤64):
  aF prog 249 [.int .i64 x,.int .i64 y,.int .i64 d,.pointer (some ⟨gb,0,none⟩)] [.blk gb 37 (aQ g A c)] w (fun v S'=>v=.int .i64 (tZ g.w g.h x y d)∧S'=[.blk gb 37 (aQ g A c)]):=by
 obtain⟨gw,gh,gx,gy,gs,p⟩:=g;dsimp only at hw hh ⊢;dsimp only[aQ]at *;have hc:=aCq (y+d) hh.1;have hm:=cN (a:=gR (y+d) gh) (b:=gw) (A:=64) (B:=64) oo oo;have iC:=clamp_cv (y+d) gh;unfold tZ;generalize gR (y+d) gh=e at *;refine aJ func249 rfl ntmps249 rfl hown (fun n=>?_);simp only[aG];refine aB;refine kC (0::1::2::3::4::5::6::7::8::9::10::11::[]) ?_;intro _;refine jY;all_goals exact aK rfl rfl aA.au ⟨rfl,rfl⟩
def uM(q W:Int)(at':Int→Int→Int→Int)(p:List Int)(k:Nat):Int:=(q*p.getD (at' (aU W k) (aT W k) (-1)).toNat 0+(256-2*q)*p.getD (at' (aU W k) (aT W k) 0).toNat 0+q*p.getD (at' (aU W k) (aT W k) 1).toNat 0)/256
def sF(q W:Int)(at':Int→Int→Int→Int)(p:List Int):List Int:=cA (uM q W at' p) p.length
theorem aYh{q:Int}{W H:Nat}{p:List Int}(hW:0<W)(hl:p.length=W*H):sF q W (rQ W) p=qE q W p:=by
 unfold sF qE;refine aEc (fun i hi=>?_);obtain⟨e1,e2,e3,e4⟩:=nG hW i;have hc:gR ((i%W:Nat)+0:Int) W=((i%W:Nat):Int):=by unfold gR;omega
 unfold uM rQ;rw[e1,e2,hc,show ((i/W:Nat):Int)*(W:Int)+((i%W:Nat):Int)=(i:Int) by rw[← Int.natCast_mul,← Int.natCast_add,e3],Int.toNat_natCast];rfl
theorem aYi{q:Int}{W H:Nat}{p:List Int}(hW:0<W)(hl:p.length=W*H):sF q W (tZ W H) p=tO q W H p:=by
 unfold sF tO;refine aEc (fun i hi=>?_);obtain⟨e1,e2,e3,e4⟩:=nG hW i;have hr:=pR (W:=W) (H:=H) (i:=i) oo;have hc:gR ((i/W:Nat)+0:Int) H=((i/W:Nat):Int):=by generalize i/W=r at *;unfold gR;omega
 unfold uM tZ;rw[e1,e2,hc,show ((i/W:Nat):Int)*(W:Int)+((i%W:Nat):Int)=(i:Int) by rw[← Int.natCast_mul,← Int.natCast_add,e3],Int.toNat_natCast];rfl
theorem aNc(AT:FuncId)[hCl:Cl prog AT](at':Int→Int→Int→Int)(gb qb:Nat)(g:bE)(Ag:Option Addr)(cg:Nat)(q:Int)(A:Option Addr)(c:Nat)(p:List Int)(w:World)(W H:Nat)(hW:g.w=W)(hH:g.h=H)(hW1:1≤W∧W≤64)(hH1:1≤H∧H≤64)(hp:dI p)(hl:p.length=W*H)(hq:0≤q∧q≤85)
  (hown:aZ [.blk gb 37 (aQ g Ag cg),.blk qb 2 [.int .i64 q]] w) (hr:bF w (aV [.blk gb 37 (aQ g Ag cg),.blk qb 2 [.int .i64 q]]) A p.length c 1 (aC .i64 p))
  (hat:∀(x y:Nat) (d:Int),x<W→y<H→(-1≤d∧d≤1)→∃n:Nat,at' x y d=n∧n<W*H∧∀w,aZ [.blk gb 37 (aQ g Ag cg)] w→aF prog AT [.int .i64 x,.int .i64 y,.int .i64 d,.pointer (some ⟨gb,0,none⟩)] [.blk gb 37 (aQ g Ag cg)] w (fun v S'=>v=.int .i64 n∧S'=[.blk gb 37 (aQ g Ag cg)])) :
  aF prog 246 [.slice A p.length c,.func (.func AT) #[] #[.pointer (some ⟨gb,0,none⟩)],.pointer (some ⟨gb,0,none⟩),.pointer (some ⟨qb,0,none⟩)] [.blk gb 37 (aQ g Ag cg),.blk qb 2 [.int .i64 q]] w
   (fun v S'=>∃A' c',v=.slice A' p.length c'∧S'=[.row (.slice A' p.length c') 2 1 p.length (aC .i64 (sF q W at' p)),.blk gb 37 (aQ g Ag cg),.blk qb 2 [.int .i64 q]]):=by
 obtain⟨gw,gh,gx,gy,gs,gp⟩:=g;dsimp only at hW hH ⊢;subst hW hH;dsimp only[aQ]at *;have hWH:W*H≤4096:=Nat.mul_le_mul hW1.2 hH1.2;have hWH0:0<W*H:=Nat.mul_pos oo oo;obtain⟨bA,oA,rfl,hRA⟩:=hr.at_ (by omega:0<p.length);unfold sF;obtain⟨N,hN⟩:∃N:Nat,p.length=N:=⟨_,rfl⟩;have hlen:=fun i (hi:i≤N)=>aBp (uM q W at' p) hi;have hset:=fun i (hi:i<N)=>aBq (uM q W at' p) hi;rw[hN];refine aJ func246 rfl ntmps246 rfl hown (fun n=>?_);simp only[aG];refine aB;rename_i bo;refine bT (X:=Nat) (fun y=>y≤H) (fun y=>[(0,.slice (some ⟨bA,oA,none⟩) N c),(1,.func (.func AT) #[] #[.pointer (some ⟨gb,0,none⟩)]),(2,.pointer (some ⟨gb,0,none⟩)),(3,.pointer (some ⟨qb,0,none⟩)),(7,.slice (some ⟨bo,0,none⟩) N N),(15,.int .i64 H),(16,.int .i64 y)])
  (fun y=>[.row (.slice (some ⟨bo,0,none⟩) N N) 2 1 N (aC .i64 (lM (uM q W at' p) N (y*W))),.blk gb 37 [.int .i64 W,.int .i64 H,.int .i64 gx,.int .i64 gy,.int .i64 gs,.slice Ag gp.length cg],.blk qb 2 [.int .i64 q]]) (fun y=>H-y) 0 (Nat.zero_le _) ⟨rfl,rfl,rfl,rfl,rfl,rfl,rfl,trivial⟩ (by rw[Nat.zero_mul];show aA [.row (.slice (some ⟨bo,0,none⟩) N N) 2 1 N (aC .i64 (List.replicate N 0)),_,_] _;exact aA.au) ?_
 intro y hy;rcases Nat.lt_or_ge y H with h|h
 ·have hyW:y*W+W≤N:=by have:=Nat.mul_le_mul_right W (show y+1≤H from h);rw[Nat.add_mul,Nat.one_mul]at this;rw[← hN,hl,Nat.mul_comm W H];exact this
  refine aB;refine bT (X:=Nat) (fun x=>x≤W) (fun x=>[(0,.slice (some ⟨bA,oA,none⟩) N c),(1,.func (.func AT) #[] #[.pointer (some ⟨gb,0,none⟩)]),(2,.pointer (some ⟨gb,0,none⟩)),(3,.pointer (some ⟨qb,0,none⟩)),(7,.slice (some ⟨bo,0,none⟩) N N),(8,.int .i64 y),(15,.int .i64 H),(16,.int .i64 y),(20,.int .i64 W),(21,.int .i64 x)])
   (fun x=>[.row (.slice (some ⟨bo,0,none⟩) N N) 2 1 N (aC .i64 (lM (uM q W at' p) N (y*W+x))),.blk gb 37 [.int .i64 W,.int .i64 H,.int .i64 gx,.int .i64 gy,.int .i64 gs,.slice Ag gp.length cg],.blk qb 2 [.int .i64 q]]) (fun x=>W-x) 0 (Nat.zero_le _) ⟨rfl,rfl,rfl,rfl,rfl,rfl,rfl,rfl,rfl,rfl,trivial⟩ aA.au ?_
  intro x hx;rcases Nat.lt_or_ge x W with h2|h2
  ·obtain⟨n1,v1,b1,t1⟩:=hat x y (-1) h2 h od;obtain⟨n2,v2,b2,t2⟩:=hat x y 0 h2 h od;obtain⟨n3,v3,b3,t3⟩:=hat x y 1 h2 h od;obtain⟨c1,c2⟩:=aCc (r:=y) h2;have hF:uM q W at' p (y*W+x)=(q*p.getD n1 0+(256-2*q)*p.getD n2 0+q*p.getD n3 0)/256:=by unfold uM;rw[c1,c2,v1,v2,v3,Int.toNat_natCast,Int.toNat_natCast,Int.toNat_natCast]
   have hs:=hset (y*W+x) oo;have hle:=hlen (y*W+x) oo;rw[hF]at hs;have p1:=hp n1 oo;have p2:=hp n2 oo;have p3:=hp n3 oo;have m1:=cN hq p1;have m2:=cN (a:=256-2*q) (b:=p.getD n2 0) (A:=256) oo p2;have m3:=cN hq p3;have iM:∀w0 W' H' t u a b,MS prog w0 W' H' (.binOp .mul t a b u) [.int .i64 (y:Int),.int .i64 (W:Int)] (.int .i64 ((y*W:Nat):Int)) True:=fun _ _ _ _ _ _ _=>bM inferInstance (by show (-9223372036854775808:Int)≤_∧_≤(9223372036854775807:Int);rw[← Int.natCast_mul];omega) (by rw[Int.natCast_mul]);have iA:∀w0 W' H' t u a b,MS prog w0 W' H' (.binOp .add t a b u) [.int .i64 ((y*W:Nat):Int),.int .i64 (x:Int)] (.int .i64 ((y*W+x:Nat):Int)) True:=fun _ _ _ _ _ _ _=>bM inferInstance (by show (-9223372036854775808:Int)≤_∧_≤(9223372036854775807:Int);omega) (by rw[Int.natCast_add]);generalize hk:y*W+x=k at *;generalize hpr:lM (uM q W at' p) N k=R at *;clear hset hlen hF v1 v2 v3 c1 c2 hat
   subst hN;refine aB;refine kC (0::1::2::3::4::5::6::7::8::9::10::11::12::13::14::15::16::17::18::19::20::21::22::23::24::25::26::27::28::29::30::31::[]) ?_;intro _;refine cF;all_goals refine lb rfl rfl rfl rfl (S:=[.blk gb 37 [.int .i64 W,.int .i64 H,.int .i64 gx,.int .i64 gy,.int .i64 gs,.slice Ag gp.length cg]]) (fun w hw ho=>t1 w ho) ?_
   all_goals rintro v S' ⟨rfl,rfl⟩
   all_goals refine jY
   all_goals refine lb rfl rfl rfl rfl (S:=[.blk gb 37 [.int .i64 W,.int .i64 H,.int .i64 gx,.int .i64 gy,.int .i64 gs,.slice Ag gp.length cg]]) (fun w hw ho=>t2 w ho) ?_
   all_goals rintro v S' ⟨rfl,rfl⟩
   all_goals refine jY
   all_goals refine lb rfl rfl rfl rfl (S:=[.blk gb 37 [.int .i64 W,.int .i64 H,.int .i64 gx,.int .i64 gy,.int .i64 gs,.slice Ag gp.length cg]]) (fun w hw ho=>t3 w ho) ?_
   all_goals rintro v S' ⟨rfl,rfl⟩
   all_goals refine jY
   all_goals
    refine aN (x+1) h2 (by show W-(x+1)<W-x;omega) ⟨rfl,rfl,rfl,rfl,rfl,rfl,rfl,rfl,rfl,by simp[aH],trivial⟩ ?_;rw[show y*W+(x+1)=k+1 by omega,← hs];exact aA.au
  ·obtain rfl:x=W:=oo;refine aB;refine aN (y+1) h (by show H-(y+1)<H-y;omega) ⟨rfl,rfl,rfl,rfl,rfl,rfl,by simp[aH],trivial⟩ ?_;rw[show (y+1)*x=y*x+x by rw[Nat.add_mul,Nat.one_mul]];exact aA.au
 ·obtain rfl:y=H:=oo;rw[show y*W=N by rw[← hN,hl,Nat.mul_comm],aBo];refine aB;exact aK rfl rfl aA.au ⟨_,_,rfl,rfl⟩
theorem bB7(g:bE)(A:Option Addr)(c:Nat)(q:Int)(w:World)(hr:bF w (aV []) A g.p.length c 1 (aC .i64 g.p))(hg:cO g)(hq:0≤q∧q≤85):
  aF prog 195 [.agg (aQ g A c).toArray,.int .i64 q] [] w
   (fun v S'=>∃u,v=.tuple #[u,.int .i64 0]∧tT (lX g q) u S'):=by
 obtain⟨W,H,hW,hH,hW1,hH1,hWH⟩:=oC hg;have hm4:=hg.len;obtain⟨-,hl,hp,hs1,hs2⟩:=hg;unfold lX;have hx:=aNb (q:=q) (W:=g.w) hq hp;have lx:=aDl q g.w g.p;have ly:=aH8 q g.w g.h (qE q g.w g.p);have e0:qE q g.w g.p=sF q W (rQ W) g.p:=by rw[hW,aYh oo hWH]
 have e1:tO q g.w g.h (qE q g.w g.p)=sF q W (tZ W H) (sF q W (rQ W) g.p):=by rw[← e0,hW,hH,aYi (H:=H) oo (by rw[aDl];exact hWH)]
 rw[e1]at ly ⊢;rw[e0]at hx lx ly;have hWb:1≤g.w∧g.w≤64:=oo;have hHb:1≤g.h∧g.h≤64:=oo;have hX:∀gb,∀(x y:Nat) (d:Int),x<W→y<H→(-1≤d∧d≤1)→∃n:Nat,rQ W x y d=n∧n<W*H∧∀w,aZ [.blk gb 37 (aQ g A c)] w→aF prog 247 [.int .i64 x,.int .i64 y,.int .i64 d,.pointer (some ⟨gb,0,none⟩)] [.blk gb 37 (aQ g A c)] w (fun v S'=>v=.int .i64 n∧S'=[.blk gb 37 (aQ g A c)]):=fun gb x y d h1 h2 h3=>by have hc:=aCq ((x:Int)+d) (n:=(W:Int)) oo;obtain⟨e,he⟩:∃e:Nat,gR ((x:Int)+d) W=e:=⟨(gR ((x:Int)+d) W).toNat,oo⟩;refine⟨y*W+e,by unfold rQ;rw[he,Int.natCast_add,Int.natCast_mul],by have:=wQ (W:=W) (H:=H) (r:=y) (c:=e) h2 oo;omega,fun w ho=>?_⟩;have:=aQu gb g A c x y d w ho oo oo h3 hWb;unfold rQ at this;rw[hW,he]at this;rw[Int.natCast_add,Int.natCast_mul];exact this
 have hY:∀gb,∀(x y:Nat) (d:Int),x<W→y<H→(-1≤d∧d≤1)→∃n:Nat,tZ W H x y d=n∧n<W*H∧∀w,aZ [.blk gb 37 (aQ g A c)] w→aF prog 249 [.int .i64 x,.int .i64 y,.int .i64 d,.pointer (some ⟨gb,0,none⟩)] [.blk gb 37 (aQ g A c)] w (fun v S'=>v=.int .i64 n∧S'=[.blk gb 37 (aQ g A c)]):=fun gb x y d h1 h2 h3=>by have hc:=aCq ((y:Int)+d) (n:=(H:Int)) oo;obtain⟨e,he⟩:∃e:Nat,gR ((y:Int)+d) H=e:=⟨(gR ((y:Int)+d) H).toNat,oo⟩;refine⟨e*W+x,by unfold tZ;rw[he,Int.natCast_add,Int.natCast_mul],by have:=wQ (W:=W) (H:=H) (r:=e) (c:=x) oo h1;omega,fun w ho=>?_⟩;have:=aQv gb g A c x y d w ho oo oo h3 hWb hHb;unfold tZ at this;rw[hW,hH,he]at this;rw[Int.natCast_add,Int.natCast_mul];exact this
 have t1:=fun gb qb w ho hr=>aNc 247 (rQ W) gb qb g A c q A c g.p w W H hW hH hW1 hH1 hp hWH hq ho hr (hX gb);have t2:=fun gb qb A2 c2 w ho hr=>aNc 249 (tZ W H) gb qb g A c q A2 c2 (sF q W (rQ W) g.p) w W H hW hH hW1 hH1 hx.1 (by rw[lx];exact hWH) hq ho hr (hY gb);clear hX hY;generalize sF q W (rQ W) g.p=p1 at *;generalize sF q W (tZ W H) p1=p2 at *;obtain⟨gw,gh,gx,gy,gs,p⟩:=g;dsimp only at hW hH hr lx ly t1 t2 ⊢;dsimp only[aQ]at *;rw[lx]at t2;rw[lx]at ly;refine aJ func195 rfl ntmps195 rfl ⟨aE,.nil⟩ (fun _=>?_);simp only[aG];refine aB;all_goals try (exfalso;omega)
 rename_i b2 b3 b4 _ _;refine lb rfl rfl rfl rfl (S:=[.blk b2 37 [.int .i64 gw,.int .i64 gh,.int .i64 gx,.int .i64 gy,.int .i64 gs,.slice A p.length c],.blk b3 2 [.int .i64 q]]) (fun w hw ho=>t1 b2 b3 w ho ⟨hr.h.go hw aD.au⟩) ?_;rintro v S' ⟨A1,c1,rfl,rfl⟩;refine aB;refine lb rfl rfl rfl rfl (S:=[.blk b2 37 [.int .i64 gw,.int .i64 gh,.int .i64 gx,.int .i64 gy,.int .i64 gs,.slice A p.length c],.blk b3 2 [.int .i64 q]]) (fun w hw ho=>t2 b2 b3 A1 c1 w ho ⟨Ro.row hw aD.au (by refine bV)⟩) ?_;rintro v S' ⟨A2,c2,rfl,rfl⟩;refine aB;refine eD (S':=[.row (.slice A2 p.length c2) 2 1 p.length (aC .i64 p2)]) aA.au ?_;refine cY;refine⟨_,rfl,A2,c2,?_,?_⟩
 ·dsimp only[aQ];rw[ly]
 ·dsimp only;rw[ly]
theorem aY0(p r:List Value)(l l':List cQ)(a b c d e a' b' c' d' e':Value)(h:l.length=64)(h':l'.length=64):jK (p++(aR cD l++(a::b::c::d::e::r))) p.length (aR cD l'++[a',b',c',d',e']) (p++(aR cD l'++(a'::b'::c'::d'::e'::r))):=⟨by
 have e1:(aR cD l).length=192:=by rw[lF,h]
 have e2:(aR cD l').length=192:=by rw[lF,h']
 refine⟨?_,by simp only[List.length_append,List.length_cons,List.length_nil];omega⟩;rw[List.take_left,show p++(aR cD l++(a::b::c::d::e::r))=(p++(aR cD l++[a,b,c,d,e]))++r by simp];rw[show p.length+(aR cD l'++[a',b',c',d',e']).length=(p++(aR cD l++[a,b,c,d,e])).length by simp only[List.length_append,List.length_cons,List.length_nil];omega,List.drop_left];simp⟩
@[reducible] def prE(p:lB):List Value:=aR cD p.l++[.int .i64 p.first,.int .i64 p.n,.int .i64 p.x,.int .i64 p.y,.int .i64 p.gap]
theorem aY5(gap:Int):prE (eY gap)=aR cD (List.replicate 64 ⟨0,0,0⟩)++[.int .i64 0,.int .i64 0,.int .i64 0,.int .i64 0,.int .i64 (min (max gap 0) 1048576)]:=rfl
def zJ:List Value:=List.replicate 197 (.int .i64 0)
def zPr:Value:=.agg zJ.toArray
set_option maxRecDepth 100000 in
instance:bH prog 162 197 1576 zPr:=⟨Tryz.t162,by kernel_rfl,by kernel_rfl,rfl,rfl⟩
instance:ZC zPr zJ:=⟨rfl⟩
set_option maxRecDepth 100000 in
instance (v:Int):jK zJ 196 [.int .i64 v] (aR cD (List.replicate 64 ⟨0,0,0⟩)++[.int .i64 0,.int .i64 0,.int .i64 0,.int .i64 0,.int .i64 v]):=⟨by kernel_rfl,by unfold zJ;rw[List.length_replicate];show 196+1≤197;decide⟩
instance:rO prog 159 3:=⟨Tryz.t159,by kernel_rfl,by kernel_rfl⟩
theorem aDr{z:List cQ}(h:z.length=64)(a b c d e:Value):(aR cD z++[a,b,c,d,e]).length=197:=by rw[List.length_append,lF,h];rfl
instance (a b c d e:Value):tU (aR cD (List.replicate 64 ⟨0,0,0⟩)++[a,b,c,d,e]) 197:=⟨aDr (List.length_replicate ..) a b c d e⟩
instance (a b c d e:Value):mK (aR cD (List.replicate 64 ⟨0,0,0⟩)++[a,b,c,d,e]) 0 197 (aR cD (List.replicate 64 ⟨0,0,0⟩)++[a,b,c,d,e]):=⟨by have h:=aDr (z:=List.replicate 64 ⟨0,0,0⟩) (List.length_replicate ..) a b c d e;refine⟨?_,h⟩;rw[List.drop_zero,← h,List.take_length]⟩
instance (a b c d e:Value):jK zJ 0 (aR cD (List.replicate 64 ⟨0,0,0⟩)++[a,b,c,d,e]) (aR cD (List.replicate 64 ⟨0,0,0⟩)++[a,b,c,d,e]):=⟨by have h:=aDr (z:=List.replicate 64 ⟨0,0,0⟩) (List.length_replicate ..) a b c d e;have h2:zJ.length=197:=List.length_replicate ..;refine⟨?_,by rw[h,h2];decide⟩;rw[Nat.zero_add,h,← h2,List.drop_length,List.take_zero,List.nil_append,List.append_nil]⟩
instance pnew_cv(gap:Int):CV prog 76 [.int .i64 gap] (.agg (prE (eY gap)).toArray) True:=⟨fun _ w=>by refine aJ func76 rfl ntmps76 rfl ⟨aE,.nil⟩ (fun _=>?_);simp only[aG];refine aB;refine bI;exact⟨rfl,rfl⟩⟩
section
variable (g:Nat) (T:TypeId) (p r:List Value) (P:lB)
theorem aYo(w:World)(hown:aZ [.blk g T (p++eZ P r)] w)(hok:lQ P):
  aF prog 179 [.pointer (some ⟨g,p.length,none⟩)] [.blk g T (p++eZ P r)] w
   (fun v S'=>v=.agg (cD (P.l.getD ((P.first+P.n+63)%64) default)).toArray∧S'=[.blk g T (p++eZ P r)]):=by
 obtain⟨l,first,m,x,y,gap⟩:=P;obtain⟨h1,h2,h3,h4,h5,h6⟩:=hok;dsimp only at h1 h2 h3 h4 h5 h6 ⊢;dsimp only[eZ]at *;have iL:fT (aR cD l) 192:=⟨by rw[lF,h1]⟩;obtain⟨k,hk⟩:∃k,(first+m+63)%64=k:=⟨_,rfl⟩;have iK:∀w0 W H t u a b,LV prog w0 W H (.binOp .rem t a b u) [.int .i64 ((first:Int)+m+64-1),.int .i64 64] (.int .i64 (k:Int)) True:=fun _ _ _ _ _ _ _=>gO inferInstance oo (congrArg (Value.int .i64) oo);have iC:=aKg (e:=cD) l k oo (.int .i64 first::.int .i64 m::.int .i64 x::.int .i64 y::.int .i64 gap::r);rw[hk];refine aJ func179 rfl ntmps179 rfl hown (fun _=>?_);simp only[aG];refine aB;refine fL [.blk g T (p++(aR cD l++(.int .i64 first::.int .i64 m::.int .i64 x::.int .i64 y::.int .i64 gap::r)))] (0::1::2::3::4::5::6::7::8::9::10::11::12::13::14::15::16::17::[]) aA.au ?_;intro _;refine cF;all_goals (refine eD (S':=[.blk g T (p++(aR cD l++(.int .i64 first::.int .i64 m::.int .i64 x::.int .i64 y::.int .i64 gap::r)))]) aA.au ?_;refine cY;exact⟨rfl,rfl⟩)
theorem aYq(w:World)(hown:aZ [.blk g T (p++eZ P r)] w)(hok:lQ P):
  aF prog 136 [.pointer (some ⟨g,p.length,none⟩)] [.blk g T (p++eZ P r)] w
   (fun v S'=>v=.int .i64 P.n∧S'=[.blk g T (p++eZ P r)]):=by
 obtain⟨l,first,m,x,y,gap⟩:=P;obtain⟨h1,h2,h3,h4,h5,h6⟩:=hok;dsimp only at h1 ⊢;dsimp only[eZ]at *;have iL:fT (aR cD l) 192:=⟨by rw[lF,h1]⟩;refine aJ func136 rfl ntmps136 rfl hown (fun _=>?_);simp only[aG];refine aB;exact aK rfl rfl aA.au ⟨rfl,rfl⟩
theorem aYl(w:World)(hown:aZ [.blk g T (p++eZ P r)] w)(hok:lQ P):
  aF prog 142 [.pointer (some ⟨g,p.length,none⟩)] [.blk g T (p++eZ P r)] w
   (fun v S'=>v=.tuple #[]∧S'=[.blk g T (p++eZ (eY P.gap) r)]):=by
 have iN:=pnew_cv P.gap;rw[aY5]at iN;obtain⟨l,first,m,x,y,gap⟩:=P;obtain⟨h1,h2,h3,h4,h5,h6⟩:=hok;dsimp only at h1 iN ⊢;dsimp only[eZ,eY]at *;have iL:fT (aR cD l) 192:=⟨by rw[lF,h1]⟩;have hz:(List.replicate 64 (⟨0,0,0⟩:cQ)).length=64:=List.length_replicate ..;generalize List.replicate 64 (⟨0,0,0⟩:cQ)=z at *;have iZ:∀a b c d e:Value,tU (aR cD z++[a,b,c,d,e]) 197:=fun a b c d e=>⟨aDr hz a b c d e⟩;have iO:=fun a b c d e=>aY0 p r l z (.int .i64 first) (.int .i64 m) (.int .i64 x) (.int .i64 y) (.int .i64 gap) a b c d e h1 hz;refine aJ func142 rfl ntmps142 rfl hown (fun _=>?_);simp only[aG];refine aB;exact oX rfl aA.au ⟨rfl,rfl⟩
theorem aYr(dx dy:Int)(w:World)(hown:aZ [.blk g T (p++eZ P r)] w)(hok:lQ P):
  aF prog 141 [.pointer (some ⟨g,p.length,none⟩),.int .i64 dx,.int .i64 dy] [.blk g T (p++eZ P r)] w
   (fun v S'=>v=.bool (pC P dx dy).2∧S'=[.blk g T (p++eZ (pC P dx dy).1 r)]):=by
 obtain⟨l,first,m,x,y,gap⟩:=P;obtain⟨h1,h2,h3,h4,h5,h6⟩:=hok;dsimp only at h1 h4 ⊢;have iL:fT (aR cD l) 192:=⟨by rw[lF,h1]⟩;unfold pC xK;dsimp only[eZ]at *;refine aJ func141 rfl ntmps141 rfl hown (fun _=>?_);simp only[aG];by_cases c1:(dx < -16777216∨16777216<dx)∨dy < -16777216∨16777216<dy
 ·rw[if_pos c1];refine aB;all_goals first
   | exact aK rfl rfl aA.au ⟨rfl,rfl⟩
   | (exfalso;omega)
 ·rw[if_neg c1];by_cases c2:(x+dx < -16777216∨16777216<x+dx)∨y+dy < -16777216∨16777216<y+dy
  ·rw[if_pos c2];refine aB;all_goals first
    | exact aK rfl rfl aA.au ⟨rfl,rfl⟩
    | (exfalso;omega)
  ·rw[if_neg c2];refine aB;all_goals first
    | exact aK rfl rfl aA.au ⟨rfl,rfl⟩
    | (exfalso;omega)
end
def aAb:List Int:=[65536,68438,71468,74632,77936,81387,84990,88753,92682,96786,101071,105546,110218,115098,120194,125515]
theorem bBo:∀i,i<16→65536≤aAb.getD i 0∧aAb.getD i 0≤131072:=by decide
instance sixteenth_cv(p:Int):CV prog 281 [.int .i64 p] (.int .i64 (aAb.getD p.toNat 0)) (0≤p∧p<16):=⟨fun hc w=>by
 obtain⟨k,rfl⟩:∃k:Nat,p=k:=⟨p.toNat,oo⟩;rw[Int.toNat_natCast];have hk:k<16:=oo;have h0:((k:Nat):Int)=0∨((k:Nat):Int)=1∨((k:Nat):Int)=2∨((k:Nat):Int)=3∨((k:Nat):Int)=4∨((k:Nat):Int)=5∨((k:Nat):Int)=6∨((k:Nat):Int)=7∨((k:Nat):Int)=8∨((k:Nat):Int)=9∨((k:Nat):Int)=10∨((k:Nat):Int)=11∨((k:Nat):Int)=12∨((k:Nat):Int)=13∨((k:Nat):Int)=14∨((k:Nat):Int)=15:=oo;have hq:∃q:Int,((k:Nat):Int)=q∧q.toNat=k:=⟨_,rfl,Int.toNat_natCast k⟩;obtain⟨q,hq1,hq2⟩:=hq;rw[hq1]at h0 ⊢;rw[← hq2];clear hq1 hq2 hc;refine aJ func281 rfl ntmps281 rfl ⟨aE,.nil⟩ (fun _=>?_);simp only[aG];rcases h0 with rfl|rfl|rfl|rfl|rfl|rfl|rfl|rfl|rfl|rfl|rfl|rfl|rfl|rfl|rfl|rfl;all_goals refine aB
 all_goals exact aK rfl rfl (.nil _) ⟨rfl,rfl⟩⟩
instance wmost_cv(z s p:Int):CV prog 271 [.agg (cH z).toArray,.int .i64 s,.int .i64 p] (.bool (aBf z s p)) ((0≤z∧z≤1152921504606846976)∧(0≤s∧s≤1073741824)∧0≤p∧p≤640):=⟨fun ⟨hz,hs,hp⟩ w=>by
 obtain⟨K,hK⟩:∃K:Nat,p/16=K:=⟨(p/16).toNat,oo⟩;have hK40:K≤40:=oo;have hd:∀i,i≤K→0≤kS z i∧kS z i≤1267650600228229401496703205376:=fun i hi=>by
  rw[yL];have e:((2:Int)^i)=((2^i:Nat):Int):=by rw[Int.natCast_pow];rfl
  have h5:=Nat.pow_le_pow_right (show 0<2 by decide) (show i≤40 by omega);have h4:=cN (a:=z) (b:=2^i) hz ⟨by rw[e];exact Int.natCast_nonneg _,(by rw[e];omega:(2:Int)^i≤1099511627776)⟩;omega
 have hM:aBf z s p=(decide (kS z K≤s*65536)&&decide (kS z K*aAb.getD (p%16).toNat 0≤s*4294967296)):=by unfold aBf;rw[hK,Int.toNat_natCast,yL];rfl
 have ht:=bBo (p%16).toNat oo;have hdK:=hd K (Nat.le_refl _);rw[hM];refine aJ func271 rfl ntmps271 rfl ⟨aE,.nil⟩ (fun _=>?_);simp only[aG];refine aB;rename_i b3 b7;rw[hK];refine bT (X:=Nat) (fun i=>i≤K) (fun i=>[(1,.int .i64 s),(2,.int .i64 p),(7,.pointer (some ⟨b7,0,none⟩)),(15,.int .i64 K),(16,.int .i64 i)]) (fun i=>[.blk b7 258 (cH (kS z i))]) (fun i=>K-i) 0 (Nat.zero_le _) ⟨rfl,rfl,rfl,rfl,rfl,trivial⟩ (by show aA [.blk b7 258 (cH z)] _;exact aA.au) ?_;intro i hi;rcases Nat.lt_or_ge i K with h|h
 ·have h1:=hd i hi;have e:kS z (i+1)=kS z i+kS z i:=rfl;generalize kS z i=x at *;refine aB;refine aN (i+1) h (by show K-(i+1)<K-i;omega) ⟨rfl,rfl,rfl,rfl,by simp[aH],trivial⟩ ?_;rw[e];exact aA.au
 ·obtain rfl:i=K:=oo;clear hd hM;generalize kS z i=a at *;have hcm:=aCr a (s*65536);have hm:=cN (a:=a) (b:=aAb.getD (p%16).toNat 0) (A:=1267650600228229401496703205376) (B:=131072) hdK oo;have iD:∀c:a≤s*65536,CV prog 152 [.agg (cH a).toArray,.int .i64 1,.int .i64 0] (.tuple #[.int .i64 a,.int .i64 0]) True:=fun c=>⟨fun _ w=>by
   have e1:cS a 1 0=a:=by rw[aB0 od,Int.ediv_one]
   have:=(aFk a 1 0).h (by rw[e1];refine⟨oo,oo,oo,oo,oo⟩) w;rw[e1]at this;exact this⟩
  have iS:=sixteenth_cv (p%16);generalize aAb.getD (p%16).toNat 0=t at *;by_cases hc:a≤s*65536
  ·have iD2:=iD hc;rw[decide_eq_true hc,Bool.true_and];have hcm2:=aCr (a*t) (s*4294967296);refine aB;all_goals first
    | (exfalso;omega)
    | (refine bI
       refine ⟨congrArg Value.bool ?_, rfl⟩;rw [Bool.eq_iff_iff];simp only [decide_eq_true_eq];omega)
  ·rw[decide_eq_false hc,Bool.false_and];refine aB;all_goals first
    | (exfalso;omega)
    | (refine bI;exact⟨rfl,rfl⟩)⟩
instance surprise_cv(z s:Int):CV prog 237 [.agg (cH z).toArray,.int .i64 s] (.int .i64 (uQ z s)) ((0<z∧z≤1152921504606846976)∧(0<s∧s≤1073741824)):=⟨fun ⟨hz,hs⟩ w=>by
 rw[show uQ z s=rI z s 641 0 640 from if_neg oo];have iY:=fun m=>wmost_cv z s m;obtain⟨f,hf⟩:∃f:Int→Bool,∀m,aBf z s m=f m:=⟨_,fun _=>rfl⟩;refine aJ func237 rfl ntmps237 rfl ⟨aE,.nil⟩ (fun _=>?_);simp only[aG];refine aB;all_goals try (exfalso;omega)
 rename_i b2 _ _;refine bT (X:=Nat×Int×Int) (fun q=>rI z s q.1 q.2.1 q.2.2=rI z s 641 0 640∧(q.2.2-q.2.1+1≤q.1)∧0≤q.2.1∧q.2.2≤640∧q.2.1≤q.2.2)
  (fun q=>[(1,.int .i64 s),(2,.pointer (some ⟨b2,0,none⟩)),(5,.int .i64 q.2.1),(6,.int .i64 q.2.2)])
  (fun _=>[.blk b2 258 (cH z)]) (fun q=>q.1) (641,0,640) ⟨rfl,by dsimp only;omega,by dsimp only;omega,by dsimp only;omega,by dsimp only;omega⟩ ⟨rfl,rfl,rfl,rfl,trivial⟩ aA.au ?_
 rintro⟨k,lo,hi⟩ ⟨e1,e2,e3,e4,e5⟩;dsimp only at e1 e2 e3 e4 e5 ⊢;rcases Int.lt_or_le lo hi with h|h
 ·obtain⟨k,rfl⟩:∃k',k=k'+1:=⟨k-1,oo⟩;rw[rI,if_pos h]at e1;obtain⟨m,hm⟩:∃m,(lo+hi+1)/2=m:=⟨_,rfl⟩;rw[hm,hf]at e1;have iY2:=iY m;rw[hf]at iY2;have hmb:lo<m∧m≤hi:=oo;have iQ:∀w0 W H t u x y,MS prog w0 W H (.binOp .quo t x y u) [.int .i64 (lo+hi+1),.int .i64 2] (.int .i64 m) True:=fun _ _ _ _ _ _ _=>bM inferInstance (by refine⟨oo,oo,oo,oo⟩) (congrArg (Value.int .i64) hm);cases hb:f m
  ·rw[hb]at iY2 e1;rw[if_neg od]at e1;refine aB;all_goals exact aN (k,lo,m-1) ⟨e1,by dsimp only;omega,by dsimp only;omega,by dsimp only;omega,by dsimp only;omega⟩ (by show k<k+1;omega) ⟨rfl,rfl,rfl,rfl,trivial⟩ aA.au
  ·rw[hb]at iY2 e1;rw[if_pos rfl]at e1;refine aB;all_goals exact aN (k,m,hi) ⟨e1,by dsimp only;omega,by dsimp only;omega,by dsimp only;omega,by dsimp only;omega⟩ (by show k<k+1;omega) ⟨rfl,rfl,rfl,rfl,trivial⟩ aA.au
 ·obtain rfl:lo=hi:=oo;have e6:rI z s k lo lo=lo:=by
   cases k with
   | zero=>rfl
   | succ k=>rw[rI,if_neg oo]
  rw[← e1,e6];refine aB;refine bI;exact⟨rfl,rfl⟩⟩
