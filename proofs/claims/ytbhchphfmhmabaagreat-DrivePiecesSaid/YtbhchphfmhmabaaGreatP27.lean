import Derived.Test.YtbhchphfmhmabaaGreatP25
import Derived.Test.YtbhchphfmhmabaaGreatP26
set_option maxHeartbeats 512000000
set_option maxRecDepth 4000
set_option linter.unusedVariables false
set_option linter.unusedSimpArgs false
namespace Go.Proofs.YtbhchphfmhmabaaGreat
open Go.RowKit _root_.Go.Proofs.Tryz
def lT(p:List Int):Nat→Int×Int
 | 0=>(-1,0)
 | i+1=>if (lT p i).2<p.getD i 0 then ((i:Int),p.getD i 0)else lT p i
attribute [local irreducible] OJ J bM Code.wpIn wpListIn Oper.wpIn bodyPost CallsIn aF
theorem aGi(g:bE)(A:Option Addr)(c:Nat)(w:World)(hr:bP w (bB []) A g.p.length c 1 (aD .i64 g.p))(hm:g.p.length≤1000000):
  aF prog 175 [.agg (aQ g A c).toArray] [] w (fun v S'=>v=.int .i64 (lT g.p g.p.length).1∧S'=[]):=by
 obtain⟨gw,gh,gx,gy,gs,p⟩:=g;dsimp only at hr hm ⊢;dsimp only[aQ];refine aJ func175 rfl ntmps175 rfl ⟨aE,.nil⟩ (fun n=>?_);simp only[aG];refine aB;refine cG (X:=Nat) (fun i=>i≤p.length) (fun i=>[(3,.int .i64 (lT p i).1),(4,.int .i64 (lT p i).2),(8,.slice A p.length c),(9,.int .i64 p.length),(10,.int .i64 i)]) (fun _=>[]) (fun i=>p.length-i) 0 (Nat.zero_le _) ⟨rfl,rfl,rfl,rfl,rfl,trivial⟩ (.nil _) ?_;intro i hi;rcases Nat.lt_or_ge i p.length with h|h
 ·obtain⟨bA,oA,rfl,hRA⟩:=hr.at_ (by omega:0<p.length);have e:lT p (i+1)=if (lT p i).2<p.getD i 0 then ((i:Int),p.getD i 0)else lT p i:=rfl;generalize lT p i=q at *;refine aB
  ·rw[if_pos oa]at e;exact aR (i+1) h (by show p.length-(i+1)<p.length-i;omega) ⟨by rw[e];rfl,by rw[e];rfl,rfl,rfl,by simp[aI],trivial⟩ (.nil _)
  ·rw[if_neg oa]at e;exact aR (i+1) h (by show p.length-(i+1)<p.length-i;omega) ⟨by rw[e];rfl,by rw[e];rfl,rfl,rfl,by simp[aI],trivial⟩ (.nil _)
 ·obtain rfl:i=p.length:=oo;refine aB;exact aM rfl rfl (.nil _) ⟨rfl,rfl⟩
theorem aTs(g:bE)(A:Option Addr)(c:Nat)(w:World)(hr:bP w (bB []) A g.p.length c 1 (aD .i64 g.p))(hs:kC g.w g.h g.st)(hl:(g.p.length:Int)=g.w*g.h)(hp:dY g.p)(h1:1073741824-(g.p.length:Int)≤aL g.p g.p.length)(h2:aL g.p g.p.length≤1073741824):
  aF prog 249 [.agg (aQ g A c).toArray] [] w (fun v S'=>v=.int .i64 0∧S'=[]):=by
 obtain⟨gw,gh,gx,gy,gs,p⟩:=g;dsimp only at hr hs hl hp h1 h2 ⊢;dsimp only[aQ];obtain⟨⟨a1,a2⟩,⟨a3,a4⟩,a5,a6⟩:=hs;have hm:=cT (a:=gw) (b:=gh) (A:=64) (B:=64) oo oo;have hsi:=fun n hn=>tV (l:=p) (B:=1073741824) hp n hn;have iM:∀w0 W H t u a b,MS prog w0 W H (.binOp .mul t a b u) [.int .i64 gw,.int .i64 gh] (.int .i64 (p.length:Int)) True:=fun _ _ _ _ _ _ _=>cD inferInstance (by show (-9223372036854775808:Int)≤_∧_≤(9223372036854775807:Int);omega) (by rw[hl]);have iL:=glen_cv gw gh gx gy gs A p.length c;rw[← hl]at iL hm;clear hl;refine aJ func249 rfl ntmps249 rfl ⟨aE,.nil⟩ (fun n=>?_);simp only[aG];refine aB;rename_i b1 _ _ _ _ _ _;refine cG (X:=Nat) (fun i=>i≤p.length) (fun i=>[(1,.pointer (some ⟨b1,0,none⟩)),(3,.int .i64 (aL p i)),(46,.slice A p.length c),(47,.int .i64 p.length),(48,.int .i64 i)]) (fun _=>[.blk b1 126 [.int .i64 gw,.int .i64 gh,.int .i64 gx,.int .i64 gy,.int .i64 gs,.slice A p.length c]]) (fun i=>p.length-i) 0 (Nat.zero_le _) ⟨rfl,rfl,rfl,rfl,rfl,trivial⟩ aA.au ?_;intro i hi;rcases Nat.lt_or_ge i p.length with h|h
 ·obtain⟨bA,oA,rfl,hRA⟩:=hr.at_ (by omega:0<p.length);have e:aL p (i+1)=aL p i+p.getD i 0:=rfl;have hs1:=hsi i hi;have hpi:=hp i h;clear hsi h1 h2;generalize aL p i=s at *;refine aB;exact aR (i+1) h (by show p.length-(i+1)<p.length-i;omega) ⟨rfl,by rw[e];rfl,rfl,rfl,by simp[aI],trivial⟩ aA.au
 ·obtain rfl:i=p.length:=oo;refine aB;exact aM rfl rfl (.nil _) ⟨rfl,rfl⟩
theorem bCi(g:bE)(A:Option Addr)(c:Nat)(Al:Option Addr)(cl:Nat)(l:List Int)(w:World)(hr:bP w (bB []) A g.p.length c 1 (aD .i64 g.p))(hrl:bP w (bB []) Al l.length cl 1 (aD .i64 l))(hp:dY g.p)(hw:Wt l)(he:l.length=g.p.length)(hn:0<g.p.length∧g.p.length≤4096)(hz0:cB g.p l g.p.length=0):
  aF prog 157 [.agg (aQ g A c).toArray,.slice Al l.length cl] [] w
   (fun v S'=>∃u2 u3,v=.tuple #[.agg (aQ g A c).toArray,u2,u3,.int .i64 7]∧S'=[]):=by
 obtain⟨gw,gh,gx,gy,gs,p⟩:=g;dsimp only at hr hp he hn hz0 ⊢;dsimp only[aQ];have hws:=yK hp hw he;have hmo:=zG hw;obtain⟨bA,oA,rfl,hRA⟩:=hr.at_ hn.1;obtain⟨bL,oL,rfl,hRL⟩:=hrl.at_ (by omega:0<l.length);refine aJ func157 rfl ntmps157 rfl ⟨aE,.nil⟩ (fun n=>?_);simp only[aG];refine aB;rename_i b2 b4 b5 _ b8;refine cG (X:=Nat) (fun i=>i≤p.length) (fun i=>[(1,.slice (some ⟨bL,oL,none⟩) l.length cl),(2,.pointer (some ⟨b2,0,none⟩)),(4,.pointer (some ⟨b4,0,none⟩)),(5,.pointer (some ⟨b5,0,none⟩)),(8,.pointer (some ⟨b8,0,none⟩)),(9,.int .i64 (gI l i)),(25,.slice (some ⟨bA,oA,none⟩) p.length c),(26,.int .i64 p.length),(27,.int .i64 i)])
  (fun i=>[.blk b8 266 (cA (cB p l i)),.blk b5 266 [.int .i64 0,.int .u64 0],.blk b4 126 jY,.blk b2 126 [.int .i64 gw,.int .i64 gh,.int .i64 gx,.int .i64 gy,.int .i64 gs,.slice (some ⟨bA,oA,none⟩) p.length c]]) (fun i=>p.length-i) 0 (Nat.zero_le _) ⟨rfl,rfl,rfl,rfl,rfl,rfl,rfl,rfl,rfl,trivial⟩ (by show aA [.blk b8 266 [.int .i64 0,.int .u64 0],_,_,_] _;exact aA.au) ?_
 intro i hi;rcases Nat.lt_or_ge i p.length with h|h
 ·have e1:cB p l (i+1)=cB p l i+p.getD i 0*l.getD i 0:=rfl;have e2:gI l (i+1)=max (gI l i) (l.getD i 0):=rfl;have hpi:=hp i h;have hli:=hw i oo;have hmu:=cT hpi hli;have hwsi:=hws i hi;have hmi:=hmo i oo;clear hws hmo hz0;generalize cB p l i=ws at *;generalize gI l i=mo at *;refine aB;refine fJ [] (0::1::2::3::4::5::6::7::8::9::10::11::[]) (.nil _) ?_;intro _;refine gO;all_goals
   refine aR (i+1) h (by show p.length-(i+1)<p.length-i;omega) ⟨rfl,rfl,rfl,rfl,rfl,by rw[e2];rfl,rfl,rfl,by simp[aI],trivial⟩ ?_;simp only[e1];exact aA.au
 ·obtain rfl:i=p.length:=oo;rw[hz0];have iS:=signw_cv 0;rw[if_neg od,if_pos rfl]at iS;refine aB;refine fJ _ (0::1::2::3::4::5::6::[]) (aA.cons (.here _ _) (aA.cons (.there _ (.there _ (.here _ _))) (aA.nil _))) ?_;intro _;refine jR;all_goals
   refine eC (.nil _) ?_;refine cZ;exact⟨_,_,rfl,rfl⟩
end Go.Proofs.YtbhchphfmhmabaaGreat
namespace Go.Proofs.YtbhchphfmhmabaaGreat
open Go.RowKit _root_.Go.Proofs.Tryz
def X0(x far step:Int):Int:=IntKind.i64.wrap (x-IntKind.i64.wrap (far*step))
def gV(s:dV):bE:=aF3 (2*s.far+1) (2*s.far+1) (X0 s.x s.far s.step) (X0 s.y s.far s.step) s.step
def qI(W H:Nat)(f:List Int)(s:dV)(l:List cK)(m times:Int):List Int:=lD (bR s.far*bR s.far) s.far (eW (aT W H f s l m) (aT W H f s l m).length).cost times (aT W H f s l m) (aT W H f s l m).length
def sM(W H:Nat)(f:List Int)(s:dV)(l:List cK)(m times:Int):Int:=if lP s l≠0 then lP s l else if ¬kC (2*s.far+1) (2*s.far+1) s.step then 2 else if (aT W H f s l m).length=0 then 7 else if cB (gV s).p (qI W H f s l m times) (gV s).p.length=0 then 7 else 0
def sN(W H:Nat)(f:List Int)(s:dV)(l:List cK)(m times:Int):bE:={ gV s with p:=jC (gV s).p (qI W H f s l m times) }
theorem aJv{s:dV}(hf:0≤s.far):(gV s).p=dO (fun _=>1073741824/((bR s.far*bR s.far:Nat):Int)) (bR s.far*bR s.far):=by
 have hs:(2*s.far+1)*(2*s.far+1)=((bR s.far*bR s.far:Nat):Int):=by
  have:((bR s.far:Nat):Int)=2*s.far+1:=by unfold bR;omega
  rw[← this];push_cast;rfl
 show aF4 ((2*s.far+1)*(2*s.far+1)).toNat=_;rw[hs,Int.toNat_natCast];rfl
theorem aF2{s:dV}(hf:0≤s.far):(gV s).p.length=bR s.far*bR s.far:=by rw[aJv hf,fQ]
theorem aJw{s:dV}(hf:0≤s.far)(hN:bR s.far*bR s.far≤4096):dY (gV s).p∧∀i,i<(gV s).p.length→(gV s).p.getD i 0=1073741824/((bR s.far*bR s.far:Nat):Int):=by
 have hp:0<bR s.far*bR s.far:=Nat.mul_pos (by unfold bR;omega) (by unfold bR;omega);have h1:=aJx ⟨hp,hN⟩;have key:∀i,i<(gV s).p.length→(gV s).p.getD i 0=1073741824/((bR s.far*bR s.far:Nat):Int):=fun i hi=>by rw[aF2 hf]at hi;rw[aJv hf];exact aT5 hi
 exact⟨fun i hi=>by rw[key i hi];omega,key⟩
theorem aNk{s:dV}(h:kC (2*s.far+1) (2*s.far+1) s.step):0≤s.far∧s.far≤31∧bR s.far*bR s.far≤4096∧0<bR s.far*bR s.far:=by
 obtain⟨⟨h1,h2⟩,-⟩:=h;have h3:bR s.far≤63:=by unfold bR;omega
 have:=Nat.mul_le_mul h3 h3;exact⟨oo,oo,oo,Nat.mul_pos (by unfold bR;omega) (by unfold bR;omega)⟩
theorem aT2(s:dV)(w:World)(hok:kC (2*s.far+1) (2*s.far+1) s.step):aF prog 194 [.int .i64 (2*s.far+1),.int .i64 (2*s.far+1),.int .i64 (X0 s.x s.far s.step),.int .i64 (X0 s.y s.far s.step),.int .i64 s.step] [] w (fun v S'=>∃u,v=.tuple #[u,.int .i64 0]∧tA (gV s) u S'):=aT3 _ _ _ _ _ w hok
theorem bAj(b6 b15:Nat)(s:dV)(x:jW)(hx:(-s.far≤x.i∧x.i≤s.far)∧(-s.far≤x.k∧x.k≤s.far))(hs:0≤s.far∧s.far≤32)(w:World)(ho:aZ [.blk b6 252 (lU s),.blk b15 3 [.int .i64 (2*s.far+1)]] w):aF prog 195 [.agg (gN x).toArray,.pointer (some ⟨b6,0,none⟩),.pointer (some ⟨b15,0,none⟩)] [.blk b6 252 (lU s),.blk b15 3 [.int .i64 (2*s.far+1)]] w
  (fun v S'=>v=.int .i64 (jO s.far x.i x.k:Nat)∧S'=[.blk b6 252 (lU s),.blk b15 3 [.int .i64 (2*s.far+1)]]):=by
 obtain⟨-,-,e⟩:=aCq hx;have hm:=gY 64 65 (a:=x.k+s.far) (b:=2*s.far+1) oo oo;refine aJ func195 rfl ntmps195 rfl ho (fun n=>?_);simp only[aG];refine aB;refine aM rfl rfl aA.au ⟨?_,rfl⟩;rw[e]
instance:ZC .nilFunc [.nilFunc]:=⟨rfl⟩
instance:qJ (Tryz.t316.desc):=⟨by kernel_rfl⟩
attribute [local irreducible] OJ J bM Code.wpIn wpListIn Oper.wpIn bodyPost CallsIn aF
theorem bAt(K:eH)(s0:dK)(f:List Int)(s:dV)(Al:Option Addr)(cl:Nat)(l:List cK)(m times b:Int)(w:World)(hown:aZ (K.H s0) w)(hF:jS K.ys f K.room)(hk0:cO K.ys f K.room s0 b)(hb:b≤500000000000000000)
  (hr:bP w (bB (K.H s0)) Al l.length cl 3 (aO bV l)) (hm:l.length≤1000000) (ht:bG .i64 times) :
  aF prog 153 [.pointer (some ⟨K.g,0,none⟩),.agg (lU s).toArray,.slice Al l.length cl,.int .i64 m,.int .i64 times] (K.H s0) w
   (fun v S'=>∃s',cO K.ys f K.room s' (b+3244800) ∧
    ((sM (wY K.ys) (hY K.ys) f s l m times≠0∧v=.tuple #[.agg (jY).toArray,.agg (gN ⟨0,0,-1⟩).toArray,.int .i64 (sM (wY K.ys) (hY K.ys) f s l m times)]∧S'=K.H s') ∨
    (sM (wY K.ys) (hY K.ys) f s l m times=0∧∃A c,v=.tuple #[.agg (aQ (sN (wY K.ys) (hY K.ys) f s l m times) A c).toArray,.agg (gN (eW (aT (wY K.ys) (hY K.ys) f s l m) (aT (wY K.ys) (hY K.ys) f s l m).length)).toArray,.int .i64 0] ∧
     S'=.row (.slice A (sN (wY K.ys) (hY K.ys) f s l m times).p.length c) 2 1 (sN (wY K.ys) (hY K.ys) f s l m times).p.length (aD .i64 (sN (wY K.ys) (hY K.ys) f s l m times).p)::K.H s'))):=by
 have iM:∀w0 W H t u a b,MS prog w0 W H (.binOp .mul t a b u) [.int .i64 s.far,.int .i64 s.step] (.int .i64 (IntKind.i64.wrap (s.far*s.step))) True:=fun _ _ _ _ _ _ _=>mI inferInstance trivial rfl;have iX:∀w0 W H t u a b,MS prog w0 W H (.binOp .sub t a b u) [.int .i64 s.x,.int .i64 (IntKind.i64.wrap (s.far*s.step))] (.int .i64 (X0 s.x s.far s.step)) True:=fun _ _ _ _ _ _ _=>mI inferInstance trivial rfl;have iY:∀w0 W H t u a b,MS prog w0 W H (.binOp .sub t a b u) [.int .i64 s.y,.int .i64 (IntKind.i64.wrap (s.far*s.step))] (.int .i64 (X0 s.y s.far s.step)) True:=fun _ _ _ _ _ _ _=>mI inferInstance trivial rfl;have hC:sM (wY K.ys) (hY K.ys) f s l m times=if lP s l≠0 then lP s l else if ¬kC (2*s.far+1) (2*s.far+1) s.step then 2 else if (aT (wY K.ys) (hY K.ys) f s l m).length=0 then 7 else if cB (gV s).p (qI (wY K.ys) (hY K.ys) f s l m times) (gV s).p.length=0 then 7 else 0:=rfl;have hG:sN (wY K.ys) (hY K.ys) f s l m times = { gV s with p:=jC (gV s).p (qI (wY K.ys) (hY K.ys) f s l m times) }:=rfl;refine uR func153 rfl ntmps153 rfl hown (fun n=>?_);simp only[aG];refine aB;rename_i b6 b9 b10 b11 b13;refine bU rfl rfl rfl (fun w hw=>aLi s Al cl l w ⟨hr.h.go hw (aC.nil _)⟩ hm) ?_;by_cases hc:lP s l=0
 rotate_left
 ·rw[if_pos hc]at hC;generalize lP s l=e at *;refine aB;refine fJ [.blk b13 256 [.int .i64 0,.int .i64 0,.int .i64 (-1)]] (0::1::2::3::4::5::[]) aA.au ?_;intro _;refine jR;all_goals
   refine qW (Ds:=[]) (S':=K.H s0) (S2:=K.HC s0 [.blk b10 126 jY,.blk b11 256 [.int .i64 0,.int .i64 0,.int .i64 (-1)]]) (by show aA (K.HC s0 [.blk b10 126 jY,.blk b11 256 [.int .i64 0,.int .i64 0,.int .i64 (-1)]]) _;exact aA.au) aA.au ?_;refine cZ;exact⟨s0,hk0.mono oo,.inl ⟨by rw[hC];exact hc,by rw[hC];rfl,rfl⟩⟩
 obtain⟨⟨⟨a1,a2⟩,⟨a3,a4⟩,⟨a5,a6⟩,a7,a8⟩,⟨l1,l2⟩,hl⟩:=aC1 hc;rw[if_neg (by rw[hc];simp)]at hC;rw[hc];refine aB;rename_i b15;by_cases hok:kC (2*s.far+1) (2*s.far+1) s.step
 rotate_left
 ·rw[if_pos hok]at hC;refine lf rfl rfl rfl (S:=[]) (fun w hw ho=>aT4 (2*s.far+1) (2*s.far+1) (X0 s.x s.far s.step) (X0 s.y s.far s.step) s.step w hok) ?_;rintro v S' ⟨rfl,rfl⟩;refine aB;refine fJ [.blk b13 256 [.int .i64 0,.int .i64 0,.int .i64 (-1)]] (0::1::2::3::4::5::[]) aA.au ?_;intro _;refine jR;all_goals
   refine qW (Ds:=[]) (S':=K.H s0) (S2:=K.HC s0 [.blk b10 126 jY,.blk b11 256 [.int .i64 0,.int .i64 0,.int .i64 (-1)]]) (by show aA (K.HC s0 [.blk b10 126 jY,.blk b11 256 [.int .i64 0,.int .i64 0,.int .i64 (-1)]]) _;exact aA.au) aA.au ?_;refine cZ;exact⟨s0,hk0.mono oo,.inl ⟨by rw[hC];decide,by rw[hC];rfl,rfl⟩⟩
 obtain⟨-,q1,q2,q3⟩:=aNk hok;rw[if_neg (by simpa using hok)]at hC;obtain⟨hp,hpc⟩:=aJw a1 q2;have hpl:=aF2 a1;have hside:((bR s.far:Nat):Int)=2*s.far+1:=by unfold bR;omega
 have iSS:∀w0 W H t u a b,MS prog w0 W H (.binOp .mul t a b u) [.int .i64 (2*s.far+1),.int .i64 (2*s.far+1)] (.int .i64 ((bR s.far*bR s.far:Nat):Int)) True:=fun _ _ _ _ _ _ _=>cD inferInstance (by rw[← hside,← Int.natCast_mul];show (-9223372036854775808:Int)≤_∧_≤(9223372036854775807:Int);omega) (by rw[← hside,← Int.natCast_mul]);refine lf rfl rfl rfl (S:=[]) (fun w hw ho=>aT2 s w hok) ?_;rintro v S' ⟨u,rfl,Ae,ce,rfl,rfl⟩;refine aB;rename_i b17;refine lf rfl rfl rfl (S:=K.H s0) (fun w hw ho=>aLh K s0 f s Al cl l m 0 b w ho hF hk0 oo ⟨hr.h.go hw aC.au⟩ hm) ?_;rintro v S' ⟨s1,k1,rfl,rfl⟩;have hall:=fun i hi=>aBm (W:=wY K.ys) (H:=hY K.ys) (f:=f) (s:=s) (l:=l) (m:=m) (i:=i) hi;have hln:=aEd (wY K.ys) (hY K.ys) f s l m;have hwd:qI (wY K.ys) (hY K.ys) f s l m times=lD (bR s.far*bR s.far) s.far (eW (aT (wY K.ys) (hY K.ys) f s l m) (aT (wY K.ys) (hY K.ys) f s l m).length).cost times (aT (wY K.ys) (hY K.ys) f s l m) (aT (wY K.ys) (hY K.ys) f s l m).length:=rfl;have hcbi : -1≤(eW (aT (wY K.ys) (hY K.ys) f s l m) (aT (wY K.ys) (hY K.ys) f s l m).length).cost∧(eW (aT (wY K.ys) (hY K.ys) f s l m) (aT (wY K.ys) (hY K.ys) f s l m).length).cost≤4611686018427387904:=by
  obtain⟨cb1,cb2⟩:=aEq (l:=aT (wY K.ys) (hY K.ys) f s l m) (fun i hi=>(hall i hi).2.2.1.1) (Nat.le_refl _);cases hb:oC (aT (wY K.ys) (hY K.ys) f s l m) (aT (wY K.ys) (hY K.ys) f s l m).length with
  | none=>rw[cb1 hb];decide
  | some k=>rw[cb2 k hb];have:=(hall k (aBt hb)).2.2.1;omega
 obtain⟨cb,hcb⟩:∃x,eW (aT (wY K.ys) (hY K.ys) f s l m) (aT (wY K.ys) (hY K.ys) f s l m).length=x:=⟨_,rfl⟩;rw[hcb]at hwd hcbi ⊢;obtain⟨sc,hsc⟩:∃x,nA (aT (wY K.ys) (hY K.ys) f s l m) cb 0 (aT (wY K.ys) (hY K.ys) f s l m).length=x:=⟨_,rfl⟩;rw[hsc];refine aB
 ·rename_i hl0;rw[if_pos oo]at hC;refine fJ [.blk b13 256 [.int .i64 0,.int .i64 0,.int .i64 (-1)]] (0::1::2::3::4::[]) aA.au ?_;intro _;refine jR;all_goals
   refine qW (Ds:=[]) (S':=K.H s1) (S2:=K.HC s1 [.blk b10 126 jY,.blk b11 256 [.int .i64 0,.int .i64 0,.int .i64 (-1)]]) (by show aA (K.HC s1 [.blk b10 126 jY,.blk b11 256 [.int .i64 0,.int .i64 0,.int .i64 (-1)]]) _;exact aA.au) aA.au ?_;refine cZ;exact⟨s1,k1.mono oo,.inl ⟨by rw[hC];decide,by rw[hC];rfl,rfl⟩⟩
 ·rename_i b19 hl0 bw b22 b23;rw[if_neg oo]at hC;generalize hN:bR s.far*bR s.far=N at *;refine lf rfl rfl rfl (S:=[]) (fun w hw ho=>aEb K.g s Al l.length cl m w) ?_;rintro v S' ⟨gs,gl,gc,gm,rfl,rfl⟩;refine aB;refine aEk (K:=K) (s0:=s1) (s:=s) (m:=m) (b:=b+2163200) (S:=[.row (.slice (some ⟨bw,0,none⟩) N N) 2 1 N (aD .i64 (List.replicate N 0)),.blk b22 124 [.slice (some ⟨bw,0,none⟩) N N],.blk b23 316 [.func (.func 195) #[] #[.pointer (some ⟨b6,0,none⟩),.pointer (some ⟨b15,0,none⟩)]],.blk b19 256 (gN cb),.blk b9 2 [.int .i64 times],.blk b6 252 (lU s),.blk b15 3 [.int .i64 (2*s.far+1)]])
   (fun i S=>S=[.row (.slice (some ⟨bw,0,none⟩) N N) 2 1 N (aD .i64 (lD N s.far cb.cost times (aT (wY K.ys) (hY K.ys) f s l m) i)),.blk b22 124 [.slice (some ⟨bw,0,none⟩) N N],.blk b23 316 [.func (.func 195) #[] #[.pointer (some ⟨b6,0,none⟩),.pointer (some ⟨b15,0,none⟩)]],.blk b19 256 (gN cb),.blk b9 2 [.int .i64 times],.blk b6 252 (lU s),.blk b15 3 [.int .i64 (2*s.far+1)]])
   (fun _ _=>False) rfl aC.au hF k1 oo hr.h hm rfl ?_ ?_ ?_
  ·rintro lp i S1 hi rfl w1 ho;have hx:=hall i hi;have e:lD N s.far cb.cost times (aT (wY K.ys) (hY K.ys) f s l m) (i+1)=(lD N s.far cb.cost times (aT (wY K.ys) (hY K.ys) f s l m) i).set (jO s.far ((aT (wY K.ys) (hY K.ys) f s l m).getD i default).i ((aT (wY K.ys) (hY K.ys) f s l m).getD i default).k) (pI cb.cost ((aT (wY K.ys) (hY K.ys) f s l m).getD i default).cost times):=rfl;have hwl:=aBb (N:=N) (far:=s.far) (best:=cb.cost) (times:=times) (L:=aT (wY K.ys) (hY K.ys) f s l m) i;dsimp only at hx;generalize (aT (wY K.ys) (hY K.ys) f s l m).getD i default=x at *;obtain⟨-,hix,hie⟩:=aCq (far:=s.far) (i:=x.i) (k:=x.k) ⟨hx.2.2.2.1,hx.2.2.2.2⟩;have hsat:=fun w ho=>bAj b6 b15 s x ⟨hx.2.2.2.1,hx.2.2.2.2⟩ ⟨a1,a2⟩ w ho;rw[hN]at hix;generalize jO s.far x.i x.k=ix at *;generalize lD N s.far cb.cost times (aT (wY K.ys) (hY K.ys) f s l m) i=wr at *;refine uB (N:=116) ho rfl aE (fun n=>?_);simp only[over];refine aB;refine tG ?_;refine aB;rename_i b24;refine fJ [.blk b22 124 [.slice (some ⟨bw,0,none⟩) N N],.blk b23 316 [.func (.func 195) #[] #[.pointer (some ⟨b6,0,none⟩),.pointer (some ⟨b15,0,none⟩)]],.blk b19 256 (gN cb),.blk b9 2 [.int .i64 times],.blk b24 256 (gN x),.blk b6 252 (lU s),.blk b15 3 [.int .i64 (2*s.far+1)]] (0::1::2::3::4::5::6::7::8::9::10::11::[]) aA.au ?_;intro _;refine jR;all_goals
    refine lb (f:=195) (first:=#[]) (captured:=#[.pointer (some ⟨b6,0,none⟩),.pointer (some ⟨b15,0,none⟩)]) (vs:=[.agg (gN x).toArray]) (S:=[.blk b6 252 (lU s),.blk b15 3 [.int .i64 (2*s.far+1)]]) rfl rfl rfl rfl (fun w hw ho=>hsat w ho) ?_;rintro v S' ⟨rfl,rfl⟩;refine jR
   all_goals
    refine qO (S':=_::[.row (.slice (some ⟨bw,0,none⟩) N N) 2 1 N (aD .i64 (lD N s.far cb.cost times (aT (wY K.ys) (hY K.ys) f s l m) (i+1))),.blk b22 124 [.slice (some ⟨bw,0,none⟩) N N],.blk b23 316 [.func (.func 195) #[] #[.pointer (some ⟨b6,0,none⟩),.pointer (some ⟨b15,0,none⟩)]],.blk b19 256 (gN cb),.blk b9 2 [.int .i64 times],.blk b6 252 (lU s),.blk b15 3 [.int .i64 (2*s.far+1)]]) ?_ (.inl ⟨rfl,_,rfl,rfl⟩);rw[e];exact aA.au
  ·rintro d s2 S2 hk2 rfl;have hwl:(qI (wY K.ys) (hY K.ys) f s l m times).length=N:=by rw[hwd];exact aBb _
   have hww:Wt (qI (wY K.ys) (hY K.ys) f s l m times):=by rw[hwd];exact aHy _
   rw[← hwd];clear hwd;generalize qI (wY K.ys) (hY K.ys) f s l m times=wt at *;obtain rfl:N=wt.length:=hwl.symm;refine aB;by_cases hz0:cB (gV s).p wt (gV s).p.length=0
   ·rw[if_pos hz0]at hC;refine lf rfl rfl rfl (S:=[]) (fun w hw ho=>bCi (gV s) Ae ce (some ⟨bw,0,none⟩) wt.length wt w ⟨Ro.row hw (aC.nil _) (by refine cF)⟩ ⟨Ro.row hw (aC.nil _) (by refine cF)⟩ hp hww hpl.symm oo hz0) ?_;rintro v S' ⟨u2,u3,rfl,rfl⟩;refine aB;refine fJ [.blk b13 256 [.int .i64 0,.int .i64 0,.int .i64 (-1)]] (0::1::2::3::4::5::[]) aA.au ?_;intro _;refine jR;all_goals
     refine qW (Ds:=[d]) (S':=K.H s2) (S2:=K.HC s2 [.blk b10 126 jY,.blk b11 256 [.int .i64 0,.int .i64 0,.int .i64 (-1)]]) (by show aA (K.HC s2 [.blk b10 126 jY,.blk b11 256 [.int .i64 0,.int .i64 0,.int .i64 (-1)],.obj d (.deferred (some []))]) _;exact aA.au) aA.au ?_;refine cZ;exact⟨s2,hk2.mono oo,.inl ⟨by rw[hC];decide,by rw[hC];rfl,rfl⟩⟩
   ·rw[if_neg hz0]at hC;have hz1:=(yK hp hww hpl.symm (gV s).p.length (Nat.le_refl _)).1;refine lf rfl rfl rfl (S:=[]) (fun w hw ho=>aOi (gV s) Ae ce (some ⟨bw,0,none⟩) wt.length wt w ⟨Ro.row hw (aC.nil _) (by refine cF)⟩ ⟨Ro.row hw (aC.nil _) (by refine cF)⟩ hp hww hpl.symm oo oo) ?_;rw[← hG];rintro v S' ⟨u,rfl,Ag,cg,rfl,rfl⟩;generalize sN (wY K.ys) (hY K.ys) f s l m times=G at *;refine aB;refine fJ [.blk b17 126 (aQ G Ag cg),.blk b19 256 (gN cb)] (0::1::2::3::4::[]) aA.au ?_;intro _;refine jR;all_goals
     refine qW (Ds:=[d]) (S':=.row (.slice Ag G.p.length cg) 2 1 G.p.length (aD .i64 G.p)::K.H s2) (S2:=.row (.slice Ag G.p.length cg) 2 1 G.p.length (aD .i64 G.p)::K.HC s2 [.blk b10 126 (aQ G Ag cg),.blk b11 256 (gN cb)]) (by show aA (.row (.slice Ag G.p.length cg) 2 1 G.p.length (aD .i64 G.p)::K.HC s2 [.blk b10 126 (aQ G Ag cg),.blk b11 256 (gN cb),.obj d (.deferred (some []))]) _;exact aA.au) aA.au ?_;refine cZ;exact⟨s2,hk2.mono oo,.inr ⟨hC,Ag,cg,rfl,rfl⟩⟩
  ·rintro d c s2 S2 hk2 h;exact h.elim
theorem aAj{z b:Int}(hz:0≤z)(hb:0<b):cP z b 1=(z+b-1)/b:=by
 have h1:=Int.mul_ediv_add_emod z b;have h2:=Int.emod_nonneg z (by omega:b≠0);have h3:=Int.emod_lt_of_pos z hb;have ez:bJ z=z:=by unfold bJ;rw[if_neg oo]
 unfold cP tZ;rw[ez,decide_eq_false (by omega:¬z<0)];generalize z/b=q at *;generalize z%b=r at *;simp only[Bool.and_false,Bool.or_false,Bool.false_or,Bool.not_false,Bool.and_true,cond_false,show decide ((1:Int)=0)=false from rfl,show decide ((1:Int)=1)=true from rfl,show decide ((1:Int)=2)=false from rfl,Bool.false_and,ne_eq,decide_not];by_cases hr:r=0
 ·rw[if_neg (by simpa using hr)];exact((Int.ediv_emod_unique (r:=b-1) (q:=q+0) hb).2 ⟨by rw[Int.add_zero];omega,oo,oo⟩).1.symm
 ·rw[if_pos (by simpa using hr)];exact((Int.ediv_emod_unique (r:=r-1) (q:=q+1) hb).2 ⟨by rw[Int.mul_add,Int.mul_one];omega,oo,oo⟩).1.symm
def oZ(s:Int):Nat→Int
 | 0=>0
 | k+1=>if orB (oZ s k) k*orB (oZ s k) k≤s then orB (oZ s k) k else oZ s k
theorem aN2(s:Int):∀k,0≤oZ s k∧oZ s k<18446744073709551616
 | 0=>by simp[oZ]
 | k+1=>by
  unfold oZ;split
  ·exact aM9 _ _
  ·exact aN2 s k
def hL:List Int:=2305843009213693952::3260954456333195553::3877950241171266237::4228934724888366667::4416165660797809418::4512867096753504462::4562008997483360348::4586780255215411730::4599216278082138664::4605446927862164403::4608565417332308034::4610125453837388244::4610905670110601998::4611295827762151832::4611490918967884500::4611588467665893035::4611637242788701949::[]
theorem aU4:∀i,i<16→oZ (hL.getD i 0*4611686018427387904) 64=hL.getD (i+1) 0:=by decide +kernel
theorem aFi:∀i,i<17→0≤hL.getD i 0∧hL.getD i 0≤4611686018427387904:=by decide +kernel
def nK(x:Int):Nat→Int
 | 0=>4611686018427387904
 | i+1=>if x/2^(15-i)%2=1 then nK x i*hL.getD (i+1) 0/4611686018427387904 else nK x i
theorem aCh(x:Int):∀i,i≤16→0≤nK x i∧nK x i≤4611686018427387904
 | 0,_=>by simp[nK]
 | i+1,h=>by
  have ih:=aCh x i oo;have h2:=aFi (i+1) oo;rw[nK];split
  ·have h3:=cT ih h2;omega
  ·exact ih
def wF(x:Int):Int:=if x<0 then 0 else if 40<x/65536 then 0 else nK x 16/1073741824/2^(x/65536).toNat
theorem aJz(x:Int):0≤wF x∧wF x≤4294967296:=by
 unfold wF;split
 ·decide
 split
 ·decide
 have h:=aCh x 16 oo;have h1:0≤nK x 16/1073741824∧nK x 16/1073741824≤4294967296:=oo;generalize nK x 16/1073741824=a at *;have h2:(0:Int)<2^(x/65536).toNat:=Int.pow_pos od;exact⟨Int.ediv_nonneg h1.1 oo,Int.le_trans (Int.ediv_le_self _ h1.1) h1.2⟩
structure lN where
 sig:Int
 flo:Int
 gate:Int
@[reducible] def qZ(n:lN):List Value:=[.int .i64 n.sig,.int .i64 n.flo,.int .i64 n.gate]
def jV(n:lN):Prop:=(1≤n.sig∧n.sig≤1048576)∧(1≤n.flo∧n.flo≤16384)∧1≤n.gate∧n.gate≤16
instance (n:lN):Decidable (jV n):=by unfold jV;infer_instance
def sT(n:lN)(d:Int):Int:=if d < -32*n.sig∨32*n.sig<d then 2621440 else min (cP (d*d*47274) (n.sig*n.sig) 2) 2621440
def sX(n:lN)(d:Int):Int:=cP (wF (sT n d)*(65536-n.flo)) 4294967296 2+n.flo
theorem aOo{n:lN}(h:jV n)(d:Int):n.flo≤sX n d∧sX n d≤65536:=by obtain⟨-,h2,-⟩:=h;unfold sX;have h3:=aJz (sT n d);generalize wF (sT n d)=e at *;have h4:=cT h3 (show 0≤65536-n.flo∧65536-n.flo≤65536-n.flo by omega);rw[yY od];generalize e*(65536-n.flo)=m at *;omega
def wZ(n:lN)(r:Int):lN:={ n with sig:=min (n.sig+min (max r 0) 1048576) 1048576 }
def bO(p:List Int)(f:Nat→Int):Nat→Int
 | 0=>0
 | i+1=>bO p f i+p.getD i 0*f i
def aY(W:Int)(i:Nat):Int:=(i:Int)%W
def aV(W:Int)(i:Nat):Int:=(i:Int)/W
def fP(g:bE):Int×Int:=(g.x+cP (bO g.p (aY g.w) g.p.length*g.st) (aL g.p g.p.length) 2,g.y+cP (bO g.p (aV g.w) g.p.length*g.st) (aL g.p g.p.length) 2)
def pN(n pr a b:Int):Int:=(n*pr-a*b)*65536/n/n
def nD(g:bE):Int:=pN (aL g.p g.p.length) (bO g.p (fun i=>aY g.w i*aY g.w i) g.p.length) (bO g.p (aY g.w) g.p.length) (bO g.p (aY g.w) g.p.length)
def nE(g:bE):Int:=pN (aL g.p g.p.length) (bO g.p (fun i=>aV g.w i*aV g.w i) g.p.length) (bO g.p (aV g.w) g.p.length) (bO g.p (aV g.w) g.p.length)
def yV(W:Int)(far:Int)(a b:Nat):Bool:=decide (far<max (max (max (aY W a-aY W b) (-(aY W a-aY W b))) (aV W a-aV W b)) (-(aV W a-aV W b)))
def pC(g:bE)(far:Int)(top:Nat):Nat→Int×Int
 | 0=>(-1,0)
 | i+1=>if (pC g far top i).2<g.p.getD i 0∧yV g.w far i top then ((i:Int),g.p.getD i 0)else pC g far top i
def aCd(g:bE):Int:=bO g.p (fun i=>if aY g.w i=0∨aV g.w i=0∨aY g.w i=g.w-1∨aV g.w i=g.h-1 then 1 else 0) g.p.length
def uT(f:Int→Bool):Nat→Int→Int→Int→Int
 | 0,n,_,_=>n
 | k+1,n,lo,hi=>if lo≤hi then (if f ((lo+hi)/2)then uT f k ((lo+hi)/2) ((lo+hi)/2+1) hi else uT f k n lo ((lo+hi)/2-1))else n
def aCe(g:bE):Int:=if aL g.p g.p.length=0 then 0 else uT (fun n=>decide (bO g.p (fun i=>g.p.getD i 0) g.p.length*n≤aL g.p g.p.length*aL g.p g.p.length)) (g.p.length+1) 0 1 g.p.length
def vB(p:List Int):List Int:=if aL p p.length≤0 then p else dO (fun i=>p.getD i 0*1073741824/aL p p.length) p.length
def fZ(i n:Int):Int:=min (max i 0) (n-1)
def oY(q W:Int)(p:List Int):List Int:=dO (fun k=>(q*p.getD (aV W k*W+fZ (aY W k-1) W).toNat 0+(256-2*q)*p.getD k 0+q*p.getD (aV W k*W+fZ (aY W k+1) W).toNat 0)/256) p.length
def sS(q W H:Int)(p:List Int):List Int:=dO (fun k=>(q*p.getD (fZ (aV W k-1) H*W+aY W k).toNat 0+(256-2*q)*p.getD k 0+q*p.getD (fZ (aV W k+1) H*W+aY W k).toNat 0)/256) p.length
def lC(g:bE)(q:Int):bE:={ g with p:=sS q g.w g.h (oY q g.w g.p) }
def bX(g:bE):bE:={ g with p:=vB g.p }
def jQ(g:bE)(dx dy:Int):bE:={ g with x:=IntKind.i64.wrap (g.x+dx),y:=IntKind.i64.wrap (g.y+dy) }
def nJ(g:bE)(x y w h:Int):bE:=⟨w,h,g.x+x*g.st,g.y+y*g.st,g.st,dO (fun k=>if 0≤x+aY w k∧0≤y+aV w k∧x+aY w k<g.w∧y+aV w k<g.h then g.p.getD ((y+aV w k)*g.w+(x+aY w k)).toNat 0 else 0) (w*h).toNat⟩
def tT(g:bE):Prop:=2*g.w≤64∧2*g.h≤64∧32≤g.st∧g.st%4=0
instance (g:bE):Decidable (tT g):=by unfold tT;infer_instance
def nU(g:bE):bE:=⟨2*g.w,2*g.h,g.x-g.st/4,g.y-g.st/4,g.st/2,dO (fun k=>g.p.getD (aV (2*g.w) k/2*g.w+aY (2*g.w) k/2).toNat 0/4) (4*g.p.length)⟩
def uU(g:bE):Prop:=g.w%2=0∧g.h%2=0∧2*g.st≤4096
instance (g:bE):Decidable (uU g):=by unfold uU;infer_instance
def lS(g:bE):Nat→List Int
 | 0=>List.replicate (g.p.length/4) 0
 | i+1=>(lS g i).set (aV g.w i/2*(g.w/2)+aY g.w i/2).toNat ((lS g i).getD (aV g.w i/2*(g.w/2)+aY g.w i/2).toNat 0+g.p.getD i 0)
def kN(g:bE):bE:=⟨g.w/2,g.h/2,g.x+g.st/2,g.y+g.st/2,2*g.st,lS g g.p.length⟩
structure xK where
 kind:Int
 x:Int
 y:Int
 w:Int
 h:Int
@[reducible] def rG(s:xK):List Value:=[.int .i64 s.kind,.int .i64 s.x,.int .i64 s.y,.int .i64 s.w,.int .i64 s.h]
def dB(g:bE):xK :=
 let top:=(max (lT g.p g.p.length).1 0).toNat
 ⟨3,aY g.w top-min g.w 16/2,aV g.w top-min g.h 16/2,min g.w 16,min g.h 16⟩
def aW(g:bE):xK :=
 if 134217728<aCd g∧8≤g.w∧8≤g.h∧uU g then ⟨2,0,0,0,0⟩
 else if aCe g<8∧g.w≤16∧g.h≤16∧tT g then ⟨1,0,0,0,0⟩
 else if 16<g.w∨16<g.h∨g.w/4<max (dB g).x (-(dB g).x)∨g.h/4<max (dB g).y (-(dB g).y)then dB g
 else ⟨0,0,0,0,0⟩
def bN(g:bE)(s:xK):bE:=if s.kind=1 then nU g else if s.kind=2 then kN g else nJ g s.x s.y s.w s.h
structure Bk where
 b:Int
 n:Int
@[reducible] def mC(k:Bk):List Value:=[.int .i64 k.b,.int .i64 k.n]
def cM(n:Int):Int:=cP (n*1099511627776) (1073741824-4*n) 1
theorem qR{n:Int}(h:0≤n∧n≤4096):0≤cM n∧cM n≤4194400:=by unfold cM;rw[aAj oo oo];refine⟨Int.ediv_nonneg oo oo,Int.le_of_lt_add_one (Int.ediv_lt_of_lt_mul oo ?_)⟩;omega
def dC(k:Bk)(b more:Int):Bk:=⟨min b (1099511627776-min more 1099511627776)+min more 1099511627776,k.n+1⟩
def gL(b most s z:Int):Int:=if z≤0∨9223372036854775808≤z then 1099511627776 else if kW (most*s) 1 1=false then 1099511627776 else if kW (b*cP (most*s) 1 1) z 1=false then 1099511627776 else min (cP (b*cP (most*s) 1 1) z 1) 1099511627776
theorem rD{k:Bk}{b more:Int}(h:(0≤b∧b≤1099511627776)∧(0≤more∧more≤1099511627776)):0≤(dC k b more).b∧(dC k b more).b≤1099511627776:=by unfold dC;dsimp only;omega
theorem yE{b most s z:Int}(hb:0≤b∧b≤1099511627776)(hm:0≤most)(hs:0≤s):0≤gL b most s z∧gL b most s z≤1099511627776:=by
 unfold gL;split
 ·decide
 split
 ·decide
 split
 ·decide
 rename_i h1 h2 h3;have h4:0≤cP (most*s) 1 1:=by rw[aAj (Int.mul_nonneg hm hs) od];have:=Int.mul_nonneg hm hs;omega
 have h5:=Int.mul_nonneg hb.1 h4;have h6:0≤cP (b*cP (most*s) 1 1) z 1:=by rw[aAj h5 oo];exact Int.ediv_nonneg oo oo
 omega
def aAt(z s p:Int):Bool:=decide (z*2^(p/16).toNat≤s*65536)&&decide (z*2^(p/16).toNat*([65536,68438,71468,74632,77936,81387,84990,88753,92682,96786,101071,105546,110218,115098,120194,125515]:List Int).getD (p%16).toNat 0≤s*4294967296)
def qF(z s:Int):Nat→Int→Int→Int
 | 0,lo,_=>lo
 | k+1,lo,hi=>if lo<hi then (if aAt z s ((lo+hi+1)/2)then qF z s k ((lo+hi+1)/2) hi else qF z s k lo ((lo+hi+1)/2-1))else lo
def tW(z s:Int):Int:=if z≤0∨s≤0 then 640 else qF z s 641 0 640
def lV(x:Nat):Nat→Nat
 | 0=>0
 | k+1=>if (lV x k+2^(31-k))*(lV x k+2^(31-k))≤x then lV x k+2^(31-k)else lV x k
theorem aNw{x:Nat}(hx:x<18446744073709551616):∀k,k≤32→lV x k*lV x k≤x∧x<(lV x k+2^(32-k))*(lV x k+2^(32-k))
 | 0,_=>⟨by simp[lV],by simpa [lV] using hx⟩
 | k+1,h=>by
  obtain⟨h1,h2⟩:=aNw hx k oo;have e:2^(32-k)=2^(31-k)+2^(31-k):=by rw[show 32-k=(31-k)+1 by omega,Nat.pow_succ];omega
  rw[e]at h2;rw[lV,show 32-(k+1)=31-k by omega];generalize lV x k=r at *;generalize 2^(31-k)=p at *;split
  ·exact⟨oa,by rw[Nat.add_assoc];exact h2⟩
  ·exact⟨h1,oo⟩
theorem aNv{x:Nat}(hx:x<18446744073709551616):lV x 32=gB x:=by obtain⟨h1,h2⟩:=aNw hx 32 (Nat.le_refl _);exact(aKq h1 h2).symm
structure dF where
 age:Int
 jump:Int
 throw:Int
 rmost:Int
 second:Int
 trust:Int
 over:Int
 miss:Int
 power:Int
 tries:Int
 noi:lN
 far:Int
 step:Int
 gap:Int
 need:Int
 meas:Int
 away:Int
 num:Int
 den:Int
 times:Int
 spread:Int
def mP(c:dF):Prop:=c.age≤60000∧(1≤c.jump∧c.jump≤1048576)∧(0≤c.throw∧c.throw≤100)∧1≤c.rmost∧c.rmost≤1048576
instance (c:dF):Decidable (mP c):=by unfold mP;infer_instance
def lZ(c:dF):Prop:=(0≤c.second∧c.second≤256)∧(1≤c.trust∧c.trust≤640)∧(1≤c.over∧c.over≤32)∧(0≤c.miss∧c.miss≤100)∧(1≤c.power∧c.power≤30)∧1≤c.tries∧c.tries≤100
instance (c:dF):Decidable (lZ c):=by unfold lZ;infer_instance
def oR(c:dF):Int :=
 if ¬mP c then 2 else if ¬lZ c then 2 else if ¬jV c.noi then 2
 else if c.far<1∨15<c.far∨c.step<64∨2048<c.step∨c.gap<0∨65536<c.gap∨c.need<2∨64<c.need then 2
 else if c.meas<0∨3<c.meas∨c.away<0∨30<c.away∨c.num<1∨1048576<c.num∨c.den<1∨1048576<c.den then 1
 else if c.times<1∨65536<c.times∨c.spread<0∨85<c.spread then 1 else 0
structure kE where
 l:List cK
 first:Nat
 n:Nat
 x:Int
 y:Int
 gap:Int
def eD(gap:Int):kE:=⟨List.replicate 64 ⟨0,0,0⟩,0,0,0,0,min (max gap 0) 1048576⟩
def wP(x:Int):Prop:=x < -16777216∨16777216<x
instance (x:Int):Decidable (wP x):=by unfold wP;infer_instance
def nQ(p:kE)(dx dy:Int):kE×Bool :=
 if wP dx∨wP dy then (p,false)else if wP (p.x+dx)∨wP (p.y+dy)then (p,false)else ({ p with x:=p.x+dx,y:=p.y+dy },true)
def yB(p:kE):Prop:=0<p.n∧max (max (max (p.x-(p.l.getD ((p.first+p.n+63)%64) default).dx) (-(p.x-(p.l.getD ((p.first+p.n+63)%64) default).dx))) (p.y-(p.l.getD ((p.first+p.n+63)%64) default).dy)) (-(p.y-(p.l.getD ((p.first+p.n+63)%64) default).dy))<p.gap
instance (p:kE):Decidable (yB p):=by unfold yB;infer_instance
def kB(p:kE)(z:Int):kE :=
 if yB p then p
 else if p.n=64 then { p with l:=p.l.set (((p.first+1)%64+63)%64) ⟨p.x,p.y,z⟩,first:=(p.first+1)%64 }
 else { p with l:=p.l.set ((p.first+p.n)%64) ⟨p.x,p.y,z⟩,n:=p.n+1 }
def kZ(p:kE):Nat→List cK
 | 0=>[]
 | i+1=>kZ p i++[p.l.getD ((p.first+i)%64) default]
def fI(p:kE):List cK:=(kZ p p.n).map fun s=>⟨s.dx-p.x,s.dy-p.y,s.z⟩
structure pK where
 l:List Int
 n:Int
 miss:Int
def jH:pK:=⟨List.replicate 32 0,0,0⟩
def nF(c:dF)(w:pK)(z s:Int):pK:=⟨w.l.set (w.n%c.over).toNat (tW z s),w.n+1,0⟩
def aB8(c:dF)(w:pK):Int:=if min w.n c.over=0 then 0 else aL w.l (min w.n c.over).toNat/min w.n c.over
def uA(c:dF)(w:pK):Bool:=decide (c.miss<w.miss∨c.over≤w.n∧c.trust<aB8 c w)
def zV(c:dF)(g:bE):Bool :=
 let a:=(lT g.p g.p.length).1;let b:=(pC g 3 a.toNat g.p.length).1;decide (0≤a∧0≤b∧g.p.getD a.toNat 0*c.second<g.p.getD b.toNat 0*256)
structure jJ where
 start:Bool
 stop:Bool
 broken:Bool
 clear:Bool
 tried:Bool
 found:Bool
 missed:Bool
 lost:Bool
 over:Bool
deriving Inhabited
@[reducible] def lR(i:jJ):List Value:=[.bool i.start,.bool i.stop,.bool i.broken,.bool i.clear,.bool i.tried,.bool i.found,.bool i.missed,.bool i.lost,.bool i.over]
def kX:jJ:=⟨false,false,false,false,false,false,false,false,false⟩
def xU(m:Int)(i:jJ):Int×Int:=if i.over=true∨i.lost=true then (1,1)else if i.found=true then (2,0)else if i.missed=true then (3,0)else (m,0)
def eT(m:Int)(i:jJ):Int×Int :=
 if m<0∨4<m∨i.broken=true∨m=4 then (4,0)
 else if i.stop=true then (0,3)
 else if m=0 then (if i.start=true then (1,1)else (0,0))
 else if m=1 then (if i.clear=true then (2,2)else if i.tried=true then (0,3)else (1,0))
 else xU m i
def fG(m:Int):Bool:=decide (m=2∨m=3)
structure mM where
 kind:Int
 g:bE
 dx:Int
 dy:Int
 q:Int
 l:List Int
 st:xK
def bW:bE:=⟨0,0,0,0,0,[]⟩
structure aK where
 cf:dF
 ln:Ln
 p:kE
 w:pK
 sat:Bool
 sums:Int
 x:Int
 y:Int
 mode:Int
 g:bE
 next:bE
 bk:Bk
 tries:Int
 void:Bool
 fail:Bool
 seq:Int
 time:Int
 deeds:List mM
 ins:List jJ
 modes:List Int
def kT(x y:Int):Bool:=decide ((-68719476736≤x∧x≤68719476736)∧(-68719476736≤y∧y≤68719476736))
def wQ(s:aK):Bool:=fG s.mode&&decide (1099511627776/2^s.cf.power.toNat<s.bk.b)
def pP(s:aK):Int :=
 (if fG s.mode&&zV s.cf s.g then 1 else 0)+(if fG s.mode&&uA s.cf s.w then 2 else 0)+(if wQ s then 4 else 0)+(if fG s.mode&&s.void then 8 else 0)+if s.fail then 16 else 0
def aDm(g:bE):Int:=let s:=(cP ((nD g+nE g)*(g.st*g.st)) 65536 1).toNat;if lV s 32*lV s 32<s then (lV s 32:Int)+1 else lV s 32
def pZ(x:Int):Prop:=-1125899906842624≤x∧x≤1125899906842624
instance (x:Int):Decidable (pZ x):=by unfold pZ;infer_instance
def pO(x:Int):Prop:=-1073741824≤x∧x≤1073741824
instance (x:Int):Decidable (pO x):=by unfold pO;infer_instance
def qQ(s:aK):Option lM :=
 let m:=fP s.g;let r:=aDm s.g
 if pZ m.1∧pZ m.2∧pZ s.x∧pZ s.y∧pO (m.1-s.x)∧pO (m.2-s.y)∧pO r then some ⟨6,s.seq,s.time,m.1-s.x,m.2-s.y,r⟩else none
def cR(s0:aK):aK×List lM :=
 let s:={ s0 with seq:=(s0.seq+1)%65536 };let f:=pP s;let out:List lM:=[⟨7,s.seq,s.time,s.mode,f,0⟩]
 (s,if s.mode=2∧f=0 then (match qQ s with|some c=>out++[c]|none=>out)else out)
section
variable (W H:Nat) (f:List Int)
def zP(L:List Int):Int:=if L.length=0 then 0 else lV (yC L) 32
def rH(g:bE)(n:lN)(z:Int):Option (List Int) :=
 let m:=fP g
 if jK W H f m.1 m.2≠0 then none
 else
  let v:=wZ n (zP (tU W H f (m.1/256) (m.2/256) 1)/4)
  some (dO (fun i=>if jK W H f (g.x+aY g.w i*g.st) (g.y+aV g.w i*g.st)=0 then sX v (oV W H f (g.x+aY g.w i*g.st) (g.y+aV g.w i*g.st)-z)else v.flo) g.p.length)
def dR:Nat→aK→aK
 | 0,s=>s
 | k+1,s =>
  let c:=aW s.g
  if c.kind=0 then s
  else
   let raw:=bN s.g c;let g':=bX raw;let n:Int:=g'.w*g'.h;let b:=if c.kind=1 then dC s.bk s.bk.b (2*cM n)else if c.kind=2 then dC s.bk s.bk.b (cM n)else dC s.bk (gL s.bk.b 1 (aL s.g.p s.g.p.length) (aL raw.p raw.p.length)) (cM n)
   dR k { s with g:=g',bk:=b,deeds:=s.deeds++[⟨4,bW,0,0,0,[],c⟩] }
def gE(s:aK)(z:Int):aK×jJ :=
 match rH W H f s.g s.cf.noi z with
 | none=>({ s with void:=true,w:={ s.w with miss:=s.w.miss+1 } },{ kX with missed:=true })
 | some l =>
  let sm:=aL s.g.p s.g.p.length;let all:=cB s.g.p l s.g.p.length;let s1:={ s with void:=false,w:=nF s.cf s.w all sm,g:={ s.g with p:=jC s.g.p l },bk:=dC s.bk (gL s.bk.b (gI l l.length) sm all) (cM l.length),deeds:=s.deeds++[⟨3,bW,0,0,0,l,⟨0,0,0,0,0⟩⟩] }
  (dR 4 s1,{ kX with found:=true })
def mV(s:aK):aK×jJ :=
 let sc:dV:=⟨s.x,s.y,s.cf.far,s.cf.step⟩;let l:=fI s.p;let L:=aT W H f sc l s.cf.meas;let b:=eW L L.length
 if L.length≠0∧wB b.cost (nA L b s.cf.away L.length) s.cf.num s.cf.den=true∧sM W H f sc l s.cf.meas s.cf.times=0 then ({ s with next:=sN W H f sc l s.cf.meas s.cf.times },{ kX with clear:=true })
 else ({ s with tries:=s.tries+1,p:=eD s.p.gap },{ kX with tried:=decide (s.cf.tries≤s.tries+1) })
def kL(s:aK)(z:Int):aK×jJ :=
 if s.mode=1 then
  let s1:={ s with p:=kB s.p z }
  if s.cf.need≤s1.p.n then mV W H f s1 else (s1,kX)
 else if fG s.mode then
  let r:=gE W H f s z
  (r.1,{ r.2 with lost:=r.2.lost||uA r.1.cf r.1.w,over:=wQ r.1 })
 else (s,kX)
def fU(a b:Int):Bool:=(decide (a<0)==decide (b<0))&&(decide (IntKind.i64.wrap (a+b)<0) != decide (a<0))
def fT(a b:Int):Int:=if fU a b then (if a<0 then -9223372036854775808 else 9223372036854775807)else IntKind.i64.wrap (a+b)
def qD(s:aK)(dx dy:Int):aK :=
 let g:=bX (lC (jQ s.g dx dy) s.cf.spread)
 { s with g:=g,bk:=dC s.bk s.bk.b (3*cM (g.w*g.h)),deeds:=s.deeds++[⟨2,bW,dx,dy,s.cf.spread,[],⟨0,0,0,0,0⟩⟩] }
def kA(s:aK)(dx dy:Int):aK×jJ :=
 let s1:={ s with x:=fT s.x dx,y:=fT s.y dy,sat:=s.sat||fU s.x dx||fU s.y dy,sums:=IntKind.i64.wrap (IntKind.i64.wrap (s.sums+1)+1) }
 if s1.sat||!kT s1.x s1.y then (s1,{ kX with broken:=true })
 else
  let s2:=if s1.mode=1 then { s1 with p:=if (nQ s1.p dx dy).2 then (nQ s1.p dx dy).1 else eD s1.p.gap }else if fG s1.mode then qD s1 dx dy else s1
  (s2,{ kX with over:=wQ s2 })
def gM(s:aK)(i:jJ)(say:Bool):aK×List lM :=
 let nx:=eT s.mode i;let s1:={ s with mode:=nx.1,ins:=s.ins++[i],modes:=s.modes++[nx.1] };let s2:=if nx.2=1 then { s1 with p:=eD s1.p.gap,tries:=0,fail:=false,void:=false,g:=bW,deeds:=[] }
  else if nx.2=2 then { s1 with g:=s1.next,bk:=⟨0,0⟩,w:=jH,deeds:=[⟨1,s1.next,0,0,0,[],⟨0,0,0,0,0⟩⟩],void:=false }
  else if nx.2=3 then { s1 with fail:=i.tried&&!i.stop,void:=false,g:=bW,deeds:=[] }
  else s1
 if say∨nx.1≠s.mode then cR s2 else (s2,[])
def nW(s:aK)(x:lM):aK×List lM :=
 if s.mode=4 then cR s
 else
  let t:=s.ln.take x.kind x.seq x.time x.a;let s1:={ s with ln:=t.1 };let ok:=t.2.2.2
  if ok then gM { (kL W H f s1 t.2.2.1).1 with time:=x.time } (kL W H f s1 t.2.2.1).2 true
  else if t.2.1≠6 then (s1,[])
  else
   let r:=if x.kind=1 then kA s1 x.a x.b else if x.kind=5 then (s1,{ kX with start:=decide (x.a=1),stop:=decide (x.a=0) })else (s1,kX)
   gM { r.1 with time:=x.time } r.2 (decide (x.kind=5∨x.kind=4))
end
def qA(c:dF)(x y:Int):aK:=⟨c,Ln.new c.age c.jump c.throw c.rmost,eD c.gap,jH,false,0,x,y,0,bW,bW,⟨0,0⟩,0,false,false,0,0,[],[],[]⟩
theorem aDq{g h:Nat→Int}: ∀{n:Nat},(∀i,i<n→g i=h i)→dO g n=dO h n
 | 0,_=>rfl
 | n+1,e=>by rw[dO,dO,aDq (n:=n) (fun i hi=>e i oo),e n oo]
theorem aGb{n i:Nat}(h:i<n):(List.replicate n (1:Int)).getD i 0=1:=by rw[List.getD_eq_getElem?_getD,List.getElem?_replicate,if_pos h];rfl
theorem aGc(p:List Int):∀m,m≤p.length→cB p (List.replicate p.length 1) m=aL p m
 | 0,_=>rfl
 | m+1,h=>by rw[cB,aL,aGc p m oo,aGb oo,Int.mul_one]
theorem aWv{p:List Int}(hz:0<aL p p.length):vB p=jC p (List.replicate p.length 1):=by unfold vB jC;rw[if_neg oo,aGc p _ (Nat.le_refl _)];refine aDq fun i hi=>?_;unfold kS;rw[aGb hi,Int.mul_one]
theorem aCz(p:List Int):(vB p).length=p.length:=by
 unfold vB;split
 ·rfl
 ·exact fQ _ _
def aA4(p:List Int):Prop:=dY p∧1073741824-(p.length:Int)≤aL p p.length∧aL p p.length≤1073741824
theorem aOk(p l:List Int):(jC p l).length=p.length:=fQ _ _
theorem aOl{p l:List Int}(hp:dY p)(hw:Wt l)(he:l.length=p.length)(hz:0<cB p l p.length):aA4 (jC p l):=by obtain⟨h1,h2,h3⟩:=aOn hp hw he hz;have hl:=aOk p l;exact⟨fun i hi=>h1 i oo,by rw[hl];exact h2,by rw[hl];exact h3⟩
theorem aLw{p:List Int}(hp:dY p)(hz:0<aL p p.length):aA4 (vB p):=by rw[aWv hz];refine aOl hp (fun i hi=>?_) (List.length_replicate ..) (by rw[aGc p _ (Nat.le_refl _)];exact hz);rw[List.length_replicate]at hi;rw[aGb hi];decide
theorem aO2{p:List Int}{B:Int}: ∀n:Nat,B*(n:Int)<aL p n→∃i,i<n∧B<p.getD i 0
 | 0,h=>by simp[aL]at h
 | n+1,h=>by
  rw[aL]at h;have e:B*((n+1:Nat):Int)=B*(n:Int)+B:=by push_cast;rw[Int.mul_add,Int.mul_one]
  rw[e]at h;rcases Int.lt_or_le B (p.getD n 0) with h1|h1
  ·exact⟨n,oo,h1⟩
  ·obtain⟨i,hi,h2⟩:=aO2 (p:=p) (B:=B) n oo;exact⟨i,oo,h2⟩
theorem aDv{p:List Int}(h:aA4 p)(hn:0<p.length)(hm:p.length≤4096):∃i,i<p.length∧262142<p.getD i 0:=by obtain⟨-,h2,-⟩:=h;have hm2:(p.length:Int)≤4096:=oo;refine aO2 (B:=262142) p.length ?_;generalize aL p p.length=S at *;generalize (p.length:Int)=n at *;omega
theorem aHe{p:List Int}(hp:dY p){i:Nat}(hi:i<p.length)(h:0<p.getD i 0):0<aL p p.length:=by have:=aDl hp p.length (Nat.le_refl _) hi;omega
theorem oU{p:List Int}(hp:dY p)(i:Nat):0≤p.getD i 0∧p.getD i 0≤1073741824:=by
 rcases Nat.lt_or_ge i p.length with h|h
 ·exact hp i h
 ·rw[List.getD_eq_getElem?_getD,List.getElem?_eq_none h];decide
theorem aBo{q a b c:Int}(hq:0≤q∧q≤85)(ha:0≤a∧a≤1073741824)(hb:0≤b∧b≤1073741824)(hc:0≤c∧c≤1073741824):0≤(q*a+(256-2*q)*b+q*c)/256∧(q*a+(256-2*q)*b+q*c)/256≤1073741824∧86*b/256≤(q*a+(256-2*q)*b+q*c)/256:=by have h1:=cT hq ha;have h2:=cT (show 0≤256-2*q∧256-2*q≤256-2*q by omega) hb;have h3:=cT hq hc;have h4:q*a≤q*1073741824:=Int.mul_le_mul_of_nonneg_left ha.2 hq.1;have h5:q*c≤q*1073741824:=Int.mul_le_mul_of_nonneg_left hc.2 hq.1;have h6:86*b≤(256-2*q)*b:=Int.mul_le_mul_of_nonneg_right oo hb.1;generalize q*a=x at *;generalize q*c=y at *;generalize (256-2*q)*b=z at *;omega
theorem aD3(q W:Int)(p:List Int):(oY q W p).length=p.length:=fQ _ _
theorem aGh(q W H:Int)(p:List Int):(sS q W H p).length=p.length:=fQ _ _
theorem aMi{q W:Int}{p:List Int}(hq:0≤q∧q≤85)(hp:dY p):dY (oY q W p)∧∀i,i<p.length→86*p.getD i 0/256≤(oY q W p).getD i 0:=by
 refine⟨fun i hi=>?_,fun i hi=>?_⟩
 ·rw[aD3]at hi;unfold oY;rw[nB _ hi];have:=aBo hq (oU hp (aV W i*W+fZ (aY W i-1) W).toNat) (oU hp i) (oU hp (aV W i*W+fZ (aY W i+1) W).toNat);exact⟨this.1,this.2.1⟩
 ·unfold oY;rw[nB _ hi];exact(aBo hq (oU hp (aV W i*W+fZ (aY W i-1) W).toNat) (oU hp i) (oU hp (aV W i*W+fZ (aY W i+1) W).toNat)).2.2
theorem aY5{q W H:Int}{p:List Int}(hq:0≤q∧q≤85)(hp:dY p):dY (sS q W H p)∧∀i,i<p.length→86*p.getD i 0/256≤(sS q W H p).getD i 0:=by
 refine⟨fun i hi=>?_,fun i hi=>?_⟩
 ·rw[aGh]at hi;unfold sS;rw[nB _ hi];have:=aBo hq (oU hp (fZ (aV W i-1) H*W+aY W i).toNat) (oU hp i) (oU hp (fZ (aV W i+1) H*W+aY W i).toNat);exact⟨this.1,this.2.1⟩
 ·unfold sS;rw[nB _ hi];exact(aBo hq (oU hp (fZ (aV W i-1) H*W+aY W i).toNat) (oU hp i) (oU hp (fZ (aV W i+1) H*W+aY W i).toNat)).2.2
def cH(g:bE):Prop:=kC g.w g.h g.st∧(g.p.length:Int)=g.w*g.h∧aA4 g.p
theorem cH.len{g:bE}(h:cH g):0<g.p.length∧g.p.length≤4096:=by obtain⟨⟨h1,h2,-⟩,h3,-⟩:=h;have:=cT (A:=64) (B:=64) (show 0≤g.w∧g.w≤64 by omega) (show 0≤g.h∧g.h≤64 by omega);have h4:=Int.mul_pos (show 0<g.w by omega) (show 0<g.h by omega);omega
theorem aNu{g:bE}{q:Int}(hg:cH g)(hq:0≤q∧q≤85)(dx dy:Int):dY (lC (jQ g dx dy) q).p∧0<aL (lC (jQ g dx dy) q).p (lC (jQ g dx dy) q).p.length∧cH (bX (lC (jQ g dx dy) q)):=by obtain⟨hl0,hl1⟩:=hg.len;obtain⟨h1,h2,h3⟩:=hg;have ep:(lC (jQ g dx dy) q).p=sS q g.w g.h (oY q g.w g.p):=rfl;obtain⟨i,hi,hb⟩:=aDv h3 hl0 hl1;obtain⟨p1,p2⟩:=aMi (W:=g.w) hq h3.1;obtain⟨p3,p4⟩:=aY5 (W:=g.w) (H:=g.h) hq p1;have hlx:=aD3 q g.w g.p;have hly:=aGh q g.w g.h (oY q g.w g.p);have b1:=p2 i hi;have b2:=p4 i oo;have hs:=aHe p3 (i:=i) oo oo;rw[ep];refine⟨p3,hs,h1,?_,aLw p3 hs⟩;show ((vB (sS q g.w g.h (oY q g.w g.p))).length:Int)=g.w*g.h;rw[aCz,hly,hlx];exact h2
theorem aHt{g:bE}{l:List Int}(hg:cH g)(hl:Wt l)(he:l.length=g.p.length)(h1:∀i,i<l.length→1≤l.getD i 0):0<cB g.p l g.p.length∧cH { g with p:=jC g.p l }:=by obtain⟨hl0,hl1⟩:=hg.len;obtain⟨g1,g2,g3⟩:=hg;obtain⟨i,hi,hb⟩:=aDv g3 hl0 hl1;have hz:=bCt g3.1 hl he hi oo (by have:=h1 i oo;omega);refine⟨hz,g1,?_,aOl g3.1 hl he hz⟩;show ((jC g.p l).length:Int)=g.w*g.h;rw[aOk];exact g2
