import Derived.Test.YtpmkboockihdbaaGreatP25
import Derived.Test.YtpmkboockihdbaaGreatP26
set_option maxHeartbeats 512000000
set_option maxRecDepth 4000
set_option linter.unusedVariables false
set_option linter.unusedSimpArgs false
namespace Go.Proofs.YtpmkboockihdbaaGreat
open Go.RowKit _root_.Go.Proofs.Tryz
def mP(p:List Int):Nat→Int×Int
 | 0=>(-1,0)
 | i+1=>if (mP p i).2<p.getD i 0 then ((i:Int),p.getD i 0)else mP p i
attribute [local irreducible] OJ J bO Code.wpIn wpListIn Oper.wpIn bodyPost CallsIn aF
theorem aH9(g:bE)(A:Option Addr)(c:Nat)(w:World)(hr:bF w (aV []) A g.p.length c 1 (aC .i64 g.p))(hm:g.p.length≤1000000):
  aF prog 27 [.agg (aQ g A c).toArray] [] w (fun v S'=>v=.int .i64 (mP g.p g.p.length).1∧S'=[]):=by
 obtain⟨gw,gh,gx,gy,gs,p⟩:=g;dsimp only at hr hm ⊢;dsimp only[aQ];refine aJ func27 rfl ntmps27 rfl ⟨aE,.nil⟩ (fun n=>?_);simp only[aG];refine aB;refine bT (X:=Nat) (fun i=>i≤p.length) (fun i=>[(3,.int .i64 (mP p i).1),(4,.int .i64 (mP p i).2),(8,.slice A p.length c),(9,.int .i64 p.length),(10,.int .i64 i)]) (fun _=>[]) (fun i=>p.length-i) 0 (Nat.zero_le _) ⟨rfl,rfl,rfl,rfl,rfl,trivial⟩ (.nil _) ?_;intro i hi;rcases Nat.lt_or_ge i p.length with h|h
 ·obtain⟨bA,oA,rfl,hRA⟩:=hr.at_ (by omega:0<p.length);have e:mP p (i+1)=if (mP p i).2<p.getD i 0 then ((i:Int),p.getD i 0)else mP p i:=rfl;generalize mP p i=q at *;refine aB
  ·rw[if_pos oa]at e;exact aN (i+1) h (by show p.length-(i+1)<p.length-i;omega) ⟨by rw[e];rfl,by rw[e];rfl,rfl,rfl,by simp[aH],trivial⟩ (.nil _)
  ·rw[if_neg oa]at e;exact aN (i+1) h (by show p.length-(i+1)<p.length-i;omega) ⟨by rw[e];rfl,by rw[e];rfl,rfl,rfl,by simp[aH],trivial⟩ (.nil _)
 ·obtain rfl:i=p.length:=oo;refine aB;exact aK rfl rfl (.nil _) ⟨rfl,rfl⟩
theorem aL0(g:bE)(A:Option Addr)(c:Nat)(w:World)(hr:bF w (aV []) A g.p.length c 1 (aC .i64 g.p))(hs:kY g.w g.h g.st)(hl:(g.p.length:Int)=g.w*g.h)(hp:dI g.p)(h1:1073741824-(g.p.length:Int)≤aM g.p g.p.length)(h2:aM g.p g.p.length≤1073741824):
  aF prog 45 [.agg (aQ g A c).toArray] [] w (fun v S'=>v=.int .i64 0∧S'=[]):=by
 obtain⟨gw,gh,gx,gy,gs,p⟩:=g;dsimp only at hr hs hl hp h1 h2 ⊢;dsimp only[aQ];obtain⟨⟨a1,a2⟩,⟨a3,a4⟩,a5,a6⟩:=hs;have hm:=cN (a:=gw) (b:=gh) (A:=64) (B:=64) oo oo;have hsi:=fun n hn=>pG (l:=p) (B:=1073741824) hp n hn;have iM:∀w0 W H t u a b,MS prog w0 W H (.binOp .mul t a b u) [.int .i64 gw,.int .i64 gh] (.int .i64 (p.length:Int)) True:=fun _ _ _ _ _ _ _=>bM inferInstance (by show (-9223372036854775808:Int)≤_∧_≤(9223372036854775807:Int);omega) (by rw[hl]);have iL:=glen_cv gw gh gx gy gs A p.length c;rw[← hl]at iL hm;clear hl;refine aJ func45 rfl ntmps45 rfl ⟨aE,.nil⟩ (fun n=>?_);simp only[aG];refine aB;rename_i b1 _ _ _ _ _ _;refine bT (X:=Nat) (fun i=>i≤p.length) (fun i=>[(1,.pointer (some ⟨b1,0,none⟩)),(3,.int .i64 (aM p i)),(46,.slice A p.length c),(47,.int .i64 p.length),(48,.int .i64 i)]) (fun _=>[.blk b1 37 [.int .i64 gw,.int .i64 gh,.int .i64 gx,.int .i64 gy,.int .i64 gs,.slice A p.length c]]) (fun i=>p.length-i) 0 (Nat.zero_le _) ⟨rfl,rfl,rfl,rfl,rfl,trivial⟩ aA.au ?_;intro i hi;rcases Nat.lt_or_ge i p.length with h|h
 ·obtain⟨bA,oA,rfl,hRA⟩:=hr.at_ (by omega:0<p.length);have e:aM p (i+1)=aM p i+p.getD i 0:=rfl;have hs1:=hsi i hi;have hpi:=hp i h;clear hsi h1 h2;generalize aM p i=s at *;refine aB;exact aN (i+1) h (by show p.length-(i+1)<p.length-i;omega) ⟨rfl,by rw[e];rfl,rfl,rfl,by simp[aH],trivial⟩ aA.au
 ·obtain rfl:i=p.length:=oo;refine aB;exact aK rfl rfl (.nil _) ⟨rfl,rfl⟩
theorem bCq(g:bE)(A:Option Addr)(c:Nat)(Al:Option Addr)(cl:Nat)(l:List Int)(w:World)(hr:bF w (aV []) A g.p.length c 1 (aC .i64 g.p))(hrl:bF w (aV []) Al l.length cl 1 (aC .i64 l))(hp:dI g.p)(hw:Wt l)(he:l.length=g.p.length)(hn:0<g.p.length∧g.p.length≤4096)(hz0:cK g.p l g.p.length=0):
  aF prog 186 [.agg (aQ g A c).toArray,.slice Al l.length cl] [] w
   (fun v S'=>∃u2 u3,v=.tuple #[.agg (aQ g A c).toArray,u2,u3,.int .i64 7]∧S'=[]):=by
 obtain⟨gw,gh,gx,gy,gs,p⟩:=g;dsimp only at hr hp he hn hz0 ⊢;dsimp only[aQ];have hws:=zH hp hw he;have hmo:=aA0 hw;obtain⟨bA,oA,rfl,hRA⟩:=hr.at_ hn.1;obtain⟨bL,oL,rfl,hRL⟩:=hrl.at_ (by omega:0<l.length);refine aJ func186 rfl ntmps186 rfl ⟨aE,.nil⟩ (fun n=>?_);simp only[aG];refine aB;rename_i b2 b4 b5 _ b8;refine bT (X:=Nat) (fun i=>i≤p.length) (fun i=>[(1,.slice (some ⟨bL,oL,none⟩) l.length cl),(2,.pointer (some ⟨b2,0,none⟩)),(4,.pointer (some ⟨b4,0,none⟩)),(5,.pointer (some ⟨b5,0,none⟩)),(8,.pointer (some ⟨b8,0,none⟩)),(9,.int .i64 (jA l i)),(25,.slice (some ⟨bA,oA,none⟩) p.length c),(26,.int .i64 p.length),(27,.int .i64 i)])
  (fun i=>[.blk b8 258 (cH (cK p l i)),.blk b5 258 [.int .i64 0,.int .u64 0],.blk b4 37 kD,.blk b2 37 [.int .i64 gw,.int .i64 gh,.int .i64 gx,.int .i64 gy,.int .i64 gs,.slice (some ⟨bA,oA,none⟩) p.length c]]) (fun i=>p.length-i) 0 (Nat.zero_le _) ⟨rfl,rfl,rfl,rfl,rfl,rfl,rfl,rfl,rfl,trivial⟩ (by show aA [.blk b8 258 [.int .i64 0,.int .u64 0],_,_,_] _;exact aA.au) ?_
 intro i hi;rcases Nat.lt_or_ge i p.length with h|h
 ·have e1:cK p l (i+1)=cK p l i+p.getD i 0*l.getD i 0:=rfl;have e2:jA l (i+1)=max (jA l i) (l.getD i 0):=rfl;have hpi:=hp i h;have hli:=hw i oo;have hmu:=cN hpi hli;have hwsi:=hws i hi;have hmi:=hmo i oo;clear hws hmo hz0;generalize cK p l i=ws at *;generalize jA l i=mo at *;refine aB;refine fL [] (0::1::2::3::4::5::6::7::8::9::10::11::[]) (.nil _) ?_;intro _;refine gP;all_goals
   refine aN (i+1) h (by show p.length-(i+1)<p.length-i;omega) ⟨rfl,rfl,rfl,rfl,rfl,by rw[e2];rfl,rfl,rfl,by simp[aH],trivial⟩ ?_;simp only[e1];exact aA.au
 ·obtain rfl:i=p.length:=oo;rw[hz0];have iS:=signw_cv 0;rw[if_neg od,if_pos rfl]at iS;refine aB;refine fL _ (0::1::2::3::4::5::6::[]) (aA.cons (.here _ _) (aA.cons (.there _ (.there _ (.here _ _))) (aA.nil _))) ?_;intro _;refine jY;all_goals
   refine eD (.nil _) ?_;refine cY;exact⟨_,_,rfl,rfl⟩
end Go.Proofs.YtpmkboockihdbaaGreat
namespace Go.Proofs.YtpmkboockihdbaaGreat
open Go.RowKit _root_.Go.Proofs.Tryz
def X0(x far step:Int):Int:=IntKind.i64.wrap (x-IntKind.i64.wrap (far*step))
def jO(s:eK):bE:=aFp (2*s.far+1) (2*s.far+1) (X0 s.x s.far s.step) (X0 s.y s.far s.step) s.step
def rL(W H:Nat)(f:List Int)(s:eK)(l:List cQ)(m times:Int):List Int:=lY (bU s.far*bU s.far) s.far (fJ (aY W H f s l m) (aY W H f s l m).length).cost times (aY W H f s l m) (aY W H f s l m).length
def tI(W H:Nat)(f:List Int)(s:eK)(l:List cQ)(m times:Int):Int:=if mN s l≠0 then mN s l else if ¬kY (2*s.far+1) (2*s.far+1) s.step then 2 else if (aY W H f s l m).length=0 then 7 else if cK (jO s).p (rL W H f s l m times) (jO s).p.length=0 then 7 else 0
def tJ(W H:Nat)(f:List Int)(s:eK)(l:List cQ)(m times:Int):bE:={ jO s with p:=jX (jO s).p (rL W H f s l m times) }
theorem aKm{s:eK}(hf:0≤s.far):(jO s).p=cA (fun _=>1073741824/((bU s.far*bU s.far:Nat):Int)) (bU s.far*bU s.far):=by
 have hs:(2*s.far+1)*(2*s.far+1)=((bU s.far*bU s.far:Nat):Int):=by
  have:((bU s.far:Nat):Int)=2*s.far+1:=by unfold bU;omega
  rw[← this];push_cast;rfl
 show aFq ((2*s.far+1)*(2*s.far+1)).toNat=_;rw[hs,Int.toNat_natCast];rfl
theorem aFo{s:eK}(hf:0≤s.far):(jO s).p.length=bU s.far*bU s.far:=by rw[aKm hf,eP]
theorem aKn{s:eK}(hf:0≤s.far)(hN:bU s.far*bU s.far≤4096):dI (jO s).p∧∀i,i<(jO s).p.length→(jO s).p.getD i 0=1073741824/((bU s.far*bU s.far:Nat):Int):=by
 have hp:0<bU s.far*bU s.far:=Nat.mul_pos (by unfold bU;omega) (by unfold bU;omega);have h1:=aKo ⟨hp,hN⟩;have key:∀i,i<(jO s).p.length→(jO s).p.getD i 0=1073741824/((bU s.far*bU s.far:Nat):Int):=fun i hi=>by rw[aFo hf]at hi;rw[aKm hf];exact aTr hi
 exact⟨fun i hi=>by rw[key i hi];omega,key⟩
theorem aOh{s:eK}(h:kY (2*s.far+1) (2*s.far+1) s.step):0≤s.far∧s.far≤31∧bU s.far*bU s.far≤4096∧0<bU s.far*bU s.far:=by
 obtain⟨⟨h1,h2⟩,-⟩:=h;have h3:bU s.far≤63:=by unfold bU;omega
 have:=Nat.mul_le_mul h3 h3;exact⟨oo,oo,oo,Nat.mul_pos (by unfold bU;omega) (by unfold bU;omega)⟩
theorem aTo(s:eK)(w:World)(hok:kY (2*s.far+1) (2*s.far+1) s.step):aF prog 232 [.int .i64 (2*s.far+1),.int .i64 (2*s.far+1),.int .i64 (X0 s.x s.far s.step),.int .i64 (X0 s.y s.far s.step),.int .i64 s.step] [] w (fun v S'=>∃u,v=.tuple #[u,.int .i64 0]∧tT (jO s) u S'):=aTp _ _ _ _ _ w hok
theorem bAr(b6 b15:Nat)(s:eK)(x:kR)(hx:(-s.far≤x.i∧x.i≤s.far)∧(-s.far≤x.k∧x.k≤s.far))(hs:0≤s.far∧s.far≤32)(w:World)(ho:aZ [.blk b6 300 (mQ s),.blk b15 3 [.int .i64 (2*s.far+1)]] w):aF prog 233 [.agg (jF x).toArray,.pointer (some ⟨b6,0,none⟩),.pointer (some ⟨b15,0,none⟩)] [.blk b6 300 (mQ s),.blk b15 3 [.int .i64 (2*s.far+1)]] w
  (fun v S'=>v=.int .i64 (kO s.far x.i x.k:Nat)∧S'=[.blk b6 300 (mQ s),.blk b15 3 [.int .i64 (2*s.far+1)]]):=by
 obtain⟨-,-,e⟩:=aDa hx;have hm:=fU 64 65 (a:=x.k+s.far) (b:=2*s.far+1) oo oo;refine aJ func233 rfl ntmps233 rfl ho (fun n=>?_);simp only[aG];refine aB;refine aK rfl rfl aA.au ⟨?_,rfl⟩;rw[e]
instance:ZC .nilFunc [.nilFunc]:=⟨rfl⟩
instance:qN (Tryz.t364.desc):=⟨by kernel_rfl⟩
attribute [local irreducible] OJ J bO Code.wpIn wpListIn Oper.wpIn bodyPost CallsIn aF
theorem bB1(K:eT)(s0:dU)(f:List Int)(s:eK)(Al:Option Addr)(cl:Nat)(l:List cQ)(m times b:Int)(w:World)(hown:aZ (K.H s0) w)(hF:kJ K.ys f K.room)(hk0:cV K.ys f K.room s0 b)(hb:b≤500000000000000000)
  (hr:bF w (aV (K.H s0)) Al l.length cl 3 (aR cD l)) (hm:l.length≤1000000) (ht:aP .i64 times) :
  aF prog 183 [.pointer (some ⟨K.g,0,none⟩),.agg (mQ s).toArray,.slice Al l.length cl,.int .i64 m,.int .i64 times] (K.H s0) w
   (fun v S'=>∃s',cV K.ys f K.room s' (b+3244800) ∧
    ((tI (wY K.ys) (hY K.ys) f s l m times≠0∧v=.tuple #[.agg (kD).toArray,.agg (jF ⟨0,0,-1⟩).toArray,.int .i64 (tI (wY K.ys) (hY K.ys) f s l m times)]∧S'=K.H s') ∨
    (tI (wY K.ys) (hY K.ys) f s l m times=0∧∃A c,v=.tuple #[.agg (aQ (tJ (wY K.ys) (hY K.ys) f s l m times) A c).toArray,.agg (jF (fJ (aY (wY K.ys) (hY K.ys) f s l m) (aY (wY K.ys) (hY K.ys) f s l m).length)).toArray,.int .i64 0] ∧
     S'=.row (.slice A (tJ (wY K.ys) (hY K.ys) f s l m times).p.length c) 2 1 (tJ (wY K.ys) (hY K.ys) f s l m times).p.length (aC .i64 (tJ (wY K.ys) (hY K.ys) f s l m times).p)::K.H s'))):=by
 have iM:∀w0 W H t u a b,MS prog w0 W H (.binOp .mul t a b u) [.int .i64 s.far,.int .i64 s.step] (.int .i64 (IntKind.i64.wrap (s.far*s.step))) True:=fun _ _ _ _ _ _ _=>nJ inferInstance trivial rfl;have iX:∀w0 W H t u a b,MS prog w0 W H (.binOp .sub t a b u) [.int .i64 s.x,.int .i64 (IntKind.i64.wrap (s.far*s.step))] (.int .i64 (X0 s.x s.far s.step)) True:=fun _ _ _ _ _ _ _=>nJ inferInstance trivial rfl;have iY:∀w0 W H t u a b,MS prog w0 W H (.binOp .sub t a b u) [.int .i64 s.y,.int .i64 (IntKind.i64.wrap (s.far*s.step))] (.int .i64 (X0 s.y s.far s.step)) True:=fun _ _ _ _ _ _ _=>nJ inferInstance trivial rfl;have hC:tI (wY K.ys) (hY K.ys) f s l m times=if mN s l≠0 then mN s l else if ¬kY (2*s.far+1) (2*s.far+1) s.step then 2 else if (aY (wY K.ys) (hY K.ys) f s l m).length=0 then 7 else if cK (jO s).p (rL (wY K.ys) (hY K.ys) f s l m times) (jO s).p.length=0 then 7 else 0:=rfl;have hG:tJ (wY K.ys) (hY K.ys) f s l m times = { jO s with p:=jX (jO s).p (rL (wY K.ys) (hY K.ys) f s l m times) }:=rfl;refine vN func183 rfl ntmps183 rfl hown (fun n=>?_);simp only[aG];refine aB;rename_i b6 b9 b10 b11 b13;refine bQ rfl rfl rfl (fun w hw=>aM9 s Al cl l w ⟨hr.h.go hw (aD.nil _)⟩ hm) ?_;by_cases hc:mN s l=0
 rotate_left
 ·rw[if_pos hc]at hC;generalize mN s l=e at *;refine aB;refine fL [.blk b13 304 [.int .i64 0,.int .i64 0,.int .i64 (-1)]] (0::1::2::3::4::5::[]) aA.au ?_;intro _;refine jY;all_goals
   refine sA (Ds:=[]) (S':=K.H s0) (S2:=K.HC s0 [.blk b10 37 kD,.blk b11 304 [.int .i64 0,.int .i64 0,.int .i64 (-1)]]) (by show aA (K.HC s0 [.blk b10 37 kD,.blk b11 304 [.int .i64 0,.int .i64 0,.int .i64 (-1)]]) _;exact aA.au) aA.au ?_;refine cY;exact⟨s0,hk0.mono oo,.inl ⟨by rw[hC];exact hc,by rw[hC];rfl,rfl⟩⟩
 obtain⟨⟨⟨a1,a2⟩,⟨a3,a4⟩,⟨a5,a6⟩,a7,a8⟩,⟨l1,l2⟩,hl⟩:=aCo hc;rw[if_neg (by rw[hc];simp)]at hC;rw[hc];refine aB;rename_i b15;by_cases hok:kY (2*s.far+1) (2*s.far+1) s.step
 rotate_left
 ·rw[if_pos hok]at hC;refine lf rfl rfl rfl (S:=[]) (fun w hw ho=>aTq (2*s.far+1) (2*s.far+1) (X0 s.x s.far s.step) (X0 s.y s.far s.step) s.step w hok) ?_;rintro v S' ⟨rfl,rfl⟩;refine aB;refine fL [.blk b13 304 [.int .i64 0,.int .i64 0,.int .i64 (-1)]] (0::1::2::3::4::5::[]) aA.au ?_;intro _;refine jY;all_goals
   refine sA (Ds:=[]) (S':=K.H s0) (S2:=K.HC s0 [.blk b10 37 kD,.blk b11 304 [.int .i64 0,.int .i64 0,.int .i64 (-1)]]) (by show aA (K.HC s0 [.blk b10 37 kD,.blk b11 304 [.int .i64 0,.int .i64 0,.int .i64 (-1)]]) _;exact aA.au) aA.au ?_;refine cY;exact⟨s0,hk0.mono oo,.inl ⟨by rw[hC];decide,by rw[hC];rfl,rfl⟩⟩
 obtain⟨-,q1,q2,q3⟩:=aOh hok;rw[if_neg (by simpa using hok)]at hC;obtain⟨hp,hpc⟩:=aKn a1 q2;have hpl:=aFo a1;have hside:((bU s.far:Nat):Int)=2*s.far+1:=by unfold bU;omega
 have iSS:∀w0 W H t u a b,MS prog w0 W H (.binOp .mul t a b u) [.int .i64 (2*s.far+1),.int .i64 (2*s.far+1)] (.int .i64 ((bU s.far*bU s.far:Nat):Int)) True:=fun _ _ _ _ _ _ _=>bM inferInstance (by rw[← hside,← Int.natCast_mul];show (-9223372036854775808:Int)≤_∧_≤(9223372036854775807:Int);omega) (by rw[← hside,← Int.natCast_mul]);refine lf rfl rfl rfl (S:=[]) (fun w hw ho=>aTo s w hok) ?_;rintro v S' ⟨u,rfl,Ae,ce,rfl,rfl⟩;refine aB;rename_i b17;refine lf rfl rfl rfl (S:=K.H s0) (fun w hw ho=>aM8 K s0 f s Al cl l m 0 b w ho hF hk0 oo ⟨hr.h.go hw aD.au⟩ hm) ?_;rintro v S' ⟨s1,k1,rfl,rfl⟩;have hall:=fun i hi=>aCb (W:=wY K.ys) (H:=hY K.ys) (f:=f) (s:=s) (l:=l) (m:=m) (i:=i) hi;have hln:=aEy (wY K.ys) (hY K.ys) f s l m;have hwd:rL (wY K.ys) (hY K.ys) f s l m times=lY (bU s.far*bU s.far) s.far (fJ (aY (wY K.ys) (hY K.ys) f s l m) (aY (wY K.ys) (hY K.ys) f s l m).length).cost times (aY (wY K.ys) (hY K.ys) f s l m) (aY (wY K.ys) (hY K.ys) f s l m).length:=rfl;have hcbi : -1≤(fJ (aY (wY K.ys) (hY K.ys) f s l m) (aY (wY K.ys) (hY K.ys) f s l m).length).cost∧(fJ (aY (wY K.ys) (hY K.ys) f s l m) (aY (wY K.ys) (hY K.ys) f s l m).length).cost≤4611686018427387904:=by
  obtain⟨cb1,cb2⟩:=aFb (l:=aY (wY K.ys) (hY K.ys) f s l m) (fun i hi=>(hall i hi).2.2.1.1) (Nat.le_refl _);cases hb:pL (aY (wY K.ys) (hY K.ys) f s l m) (aY (wY K.ys) (hY K.ys) f s l m).length with
  | none=>rw[cb1 hb];decide
  | some k=>rw[cb2 k hb];have:=(hall k (aCi hb)).2.2.1;omega
 obtain⟨cb,hcb⟩:∃x,fJ (aY (wY K.ys) (hY K.ys) f s l m) (aY (wY K.ys) (hY K.ys) f s l m).length=x:=⟨_,rfl⟩;rw[hcb]at hwd hcbi ⊢;obtain⟨sc,hsc⟩:∃x,oF (aY (wY K.ys) (hY K.ys) f s l m) cb 0 (aY (wY K.ys) (hY K.ys) f s l m).length=x:=⟨_,rfl⟩;rw[hsc];refine aB
 ·rename_i hl0;rw[if_pos oo]at hC;refine fL [.blk b13 304 [.int .i64 0,.int .i64 0,.int .i64 (-1)]] (0::1::2::3::4::[]) aA.au ?_;intro _;refine jY;all_goals
   refine sA (Ds:=[]) (S':=K.H s1) (S2:=K.HC s1 [.blk b10 37 kD,.blk b11 304 [.int .i64 0,.int .i64 0,.int .i64 (-1)]]) (by show aA (K.HC s1 [.blk b10 37 kD,.blk b11 304 [.int .i64 0,.int .i64 0,.int .i64 (-1)]]) _;exact aA.au) aA.au ?_;refine cY;exact⟨s1,k1.mono oo,.inl ⟨by rw[hC];decide,by rw[hC];rfl,rfl⟩⟩
 ·rename_i b19 hl0 bw b22 b23;rw[if_neg oo]at hC;generalize hN:bU s.far*bU s.far=N at *;refine lf rfl rfl rfl (S:=[]) (fun w hw ho=>aEw K.g s Al l.length cl m w) ?_;rintro v S' ⟨gs,gl,gc,gm,rfl,rfl⟩;refine aB;refine aF5 (K:=K) (s0:=s1) (s:=s) (m:=m) (b:=b+2163200) (S:=[.row (.slice (some ⟨bw,0,none⟩) N N) 2 1 N (aC .i64 (List.replicate N 0)),.blk b22 35 [.slice (some ⟨bw,0,none⟩) N N],.blk b23 364 [.func (.func 233) #[] #[.pointer (some ⟨b6,0,none⟩),.pointer (some ⟨b15,0,none⟩)]],.blk b19 304 (jF cb),.blk b9 2 [.int .i64 times],.blk b6 300 (mQ s),.blk b15 3 [.int .i64 (2*s.far+1)]])
   (fun i S=>S=[.row (.slice (some ⟨bw,0,none⟩) N N) 2 1 N (aC .i64 (lY N s.far cb.cost times (aY (wY K.ys) (hY K.ys) f s l m) i)),.blk b22 35 [.slice (some ⟨bw,0,none⟩) N N],.blk b23 364 [.func (.func 233) #[] #[.pointer (some ⟨b6,0,none⟩),.pointer (some ⟨b15,0,none⟩)]],.blk b19 304 (jF cb),.blk b9 2 [.int .i64 times],.blk b6 300 (mQ s),.blk b15 3 [.int .i64 (2*s.far+1)]])
   (fun _ _=>False) rfl aD.au hF k1 oo hr.h hm rfl ?_ ?_ ?_
  ·rintro lp i S1 hi rfl w1 ho;have hx:=hall i hi;have e:lY N s.far cb.cost times (aY (wY K.ys) (hY K.ys) f s l m) (i+1)=(lY N s.far cb.cost times (aY (wY K.ys) (hY K.ys) f s l m) i).set (kO s.far ((aY (wY K.ys) (hY K.ys) f s l m).getD i default).i ((aY (wY K.ys) (hY K.ys) f s l m).getD i default).k) (qL cb.cost ((aY (wY K.ys) (hY K.ys) f s l m).getD i default).cost times):=rfl;have hwl:=aC0 (N:=N) (far:=s.far) (best:=cb.cost) (times:=times) (L:=aY (wY K.ys) (hY K.ys) f s l m) i;dsimp only at hx;generalize (aY (wY K.ys) (hY K.ys) f s l m).getD i default=x at *;obtain⟨-,hix,hie⟩:=aDa (far:=s.far) (i:=x.i) (k:=x.k) ⟨hx.2.2.2.1,hx.2.2.2.2⟩;have hsat:=fun w ho=>bAr b6 b15 s x ⟨hx.2.2.2.1,hx.2.2.2.2⟩ ⟨a1,a2⟩ w ho;rw[hN]at hix;generalize kO s.far x.i x.k=ix at *;generalize lY N s.far cb.cost times (aY (wY K.ys) (hY K.ys) f s l m) i=wr at *;refine uU (N:=116) ho rfl aE (fun n=>?_);simp only[over];refine aB;refine uB ?_;refine aB;rename_i b24;refine fL [.blk b22 35 [.slice (some ⟨bw,0,none⟩) N N],.blk b23 364 [.func (.func 233) #[] #[.pointer (some ⟨b6,0,none⟩),.pointer (some ⟨b15,0,none⟩)]],.blk b19 304 (jF cb),.blk b9 2 [.int .i64 times],.blk b24 304 (jF x),.blk b6 300 (mQ s),.blk b15 3 [.int .i64 (2*s.far+1)]] (0::1::2::3::4::5::6::7::8::9::10::11::[]) aA.au ?_;intro _;refine jY;all_goals
    refine lb (f:=233) (first:=#[]) (captured:=#[.pointer (some ⟨b6,0,none⟩),.pointer (some ⟨b15,0,none⟩)]) (vs:=[.agg (jF x).toArray]) (S:=[.blk b6 300 (mQ s),.blk b15 3 [.int .i64 (2*s.far+1)]]) rfl rfl rfl rfl (fun w hw ho=>hsat w ho) ?_;rintro v S' ⟨rfl,rfl⟩;refine jY
   all_goals
    refine rS (S':=_::[.row (.slice (some ⟨bw,0,none⟩) N N) 2 1 N (aC .i64 (lY N s.far cb.cost times (aY (wY K.ys) (hY K.ys) f s l m) (i+1))),.blk b22 35 [.slice (some ⟨bw,0,none⟩) N N],.blk b23 364 [.func (.func 233) #[] #[.pointer (some ⟨b6,0,none⟩),.pointer (some ⟨b15,0,none⟩)]],.blk b19 304 (jF cb),.blk b9 2 [.int .i64 times],.blk b6 300 (mQ s),.blk b15 3 [.int .i64 (2*s.far+1)]]) ?_ (.inl ⟨rfl,_,rfl,rfl⟩);rw[e];exact aA.au
  ·rintro d s2 S2 hk2 rfl;have hwl:(rL (wY K.ys) (hY K.ys) f s l m times).length=N:=by rw[hwd];exact aC0 _
   have hww:Wt (rL (wY K.ys) (hY K.ys) f s l m times):=by rw[hwd];exact aIp _
   rw[← hwd];clear hwd;generalize rL (wY K.ys) (hY K.ys) f s l m times=wt at *;obtain rfl:N=wt.length:=hwl.symm;refine aB;by_cases hz0:cK (jO s).p wt (jO s).p.length=0
   ·rw[if_pos hz0]at hC;refine lf rfl rfl rfl (S:=[]) (fun w hw ho=>bCq (jO s) Ae ce (some ⟨bw,0,none⟩) wt.length wt w ⟨Ro.row hw (aD.nil _) (by refine bV)⟩ ⟨Ro.row hw (aD.nil _) (by refine bV)⟩ hp hww hpl.symm oo hz0) ?_;rintro v S' ⟨u2,u3,rfl,rfl⟩;refine aB;refine fL [.blk b13 304 [.int .i64 0,.int .i64 0,.int .i64 (-1)]] (0::1::2::3::4::5::[]) aA.au ?_;intro _;refine jY;all_goals
     refine sA (Ds:=[d]) (S':=K.H s2) (S2:=K.HC s2 [.blk b10 37 kD,.blk b11 304 [.int .i64 0,.int .i64 0,.int .i64 (-1)]]) (by show aA (K.HC s2 [.blk b10 37 kD,.blk b11 304 [.int .i64 0,.int .i64 0,.int .i64 (-1)],.obj d (.deferred (some []))]) _;exact aA.au) aA.au ?_;refine cY;exact⟨s2,hk2.mono oo,.inl ⟨by rw[hC];decide,by rw[hC];rfl,rfl⟩⟩
   ·rw[if_neg hz0]at hC;have hz1:=(zH hp hww hpl.symm (jO s).p.length (Nat.le_refl _)).1;refine lf rfl rfl rfl (S:=[]) (fun w hw ho=>aPd (jO s) Ae ce (some ⟨bw,0,none⟩) wt.length wt w ⟨Ro.row hw (aD.nil _) (by refine bV)⟩ ⟨Ro.row hw (aD.nil _) (by refine bV)⟩ hp hww hpl.symm oo oo) ?_;rw[← hG];rintro v S' ⟨u,rfl,Ag,cg,rfl,rfl⟩;generalize tJ (wY K.ys) (hY K.ys) f s l m times=G at *;refine aB;refine fL [.blk b17 37 (aQ G Ag cg),.blk b19 304 (jF cb)] (0::1::2::3::4::[]) aA.au ?_;intro _;refine jY;all_goals
     refine sA (Ds:=[d]) (S':=.row (.slice Ag G.p.length cg) 2 1 G.p.length (aC .i64 G.p)::K.H s2) (S2:=.row (.slice Ag G.p.length cg) 2 1 G.p.length (aC .i64 G.p)::K.HC s2 [.blk b10 37 (aQ G Ag cg),.blk b11 304 (jF cb)]) (by show aA (.row (.slice Ag G.p.length cg) 2 1 G.p.length (aC .i64 G.p)::K.HC s2 [.blk b10 37 (aQ G Ag cg),.blk b11 304 (jF cb),.obj d (.deferred (some []))]) _;exact aA.au) aA.au ?_;refine cY;exact⟨s2,hk2.mono oo,.inr ⟨hC,Ag,cg,rfl,rfl⟩⟩
  ·rintro d c s2 S2 hk2 h;exact h.elim
theorem aB1{z b:Int}(hz:0≤z)(hb:0<b):cS z b 1=(z+b-1)/b:=by
 have h1:=Int.mul_ediv_add_emod z b;have h2:=Int.emod_nonneg z (by omega:b≠0);have h3:=Int.emod_lt_of_pos z hb;have ez:bP z=z:=by unfold bP;rw[if_neg oo]
 unfold cS uS;rw[ez,decide_eq_false (by omega:¬z<0)];generalize z/b=q at *;generalize z%b=r at *;simp only[Bool.and_false,Bool.or_false,Bool.false_or,Bool.not_false,Bool.and_true,cond_false,show decide ((1:Int)=0)=false from rfl,show decide ((1:Int)=1)=true from rfl,show decide ((1:Int)=2)=false from rfl,Bool.false_and,ne_eq,decide_not];by_cases hr:r=0
 ·rw[if_neg (by simpa using hr)];exact((Int.ediv_emod_unique (r:=b-1) (q:=q+0) hb).2 ⟨by rw[Int.add_zero];omega,oo,oo⟩).1.symm
 ·rw[if_pos (by simpa using hr)];exact((Int.ediv_emod_unique (r:=r-1) (q:=q+1) hb).2 ⟨by rw[Int.mul_add,Int.mul_one];omega,oo,oo⟩).1.symm
def qF(s:Int):Nat→Int
 | 0=>0
 | k+1=>if orB (qF s k) k*orB (qF s k) k≤s then orB (qF s k) k else qF s k
theorem aNw(s:Int):∀k,0≤qF s k∧qF s k<18446744073709551616
 | 0=>by simp[qF]
 | k+1=>by
  unfold qF;split
  ·exact aN2 _ _
  ·exact aNw s k
def hL:List Int:=2305843009213693952::3260954456333195553::3877950241171266237::4228934724888366667::4416165660797809418::4512867096753504462::4562008997483360348::4586780255215411730::4599216278082138664::4605446927862164403::4608565417332308034::4610125453837388244::4610905670110601998::4611295827762151832::4611490918967884500::4611588467665893035::4611637242788701949::[]
theorem aUo:∀i,i<16→qF (hL.getD i 0*4611686018427387904) 64=hL.getD (i+1) 0:=by decide +kernel
theorem aB6:∀i,i<17→0≤hL.getD i 0∧hL.getD i 0≤4611686018427387904:=by decide +kernel
def lE(x:Int):Nat→Int
 | 0=>4611686018427387904
 | i+1=>if x/2^(15-i)%2=1 then lE x i*hL.getD (i+1) 0/4611686018427387904 else lE x i
theorem aB3(x:Int):∀i,i≤16→0≤lE x i∧lE x i≤4611686018427387904
 | 0,_=>by simp[lE]
 | i+1,h=>by
  have ih:=aB3 x i oo;have h2:=aB6 (i+1) oo;rw[lE];split
  ·have h3:=cN ih h2;omega
  ·exact ih
def oU(x:Int):Int:=if x<0 then 0 else if 40<x/65536 then 0 else lE x 16/1073741824/2^(x/65536).toNat
theorem aFt(x:Int):0≤oU x∧oU x≤4294967296:=by
 unfold oU;split
 ·decide
 split
 ·decide
 have h:=aB3 x 16 oo;have h1:0≤lE x 16/1073741824∧lE x 16/1073741824≤4294967296:=oo;generalize lE x 16/1073741824=a at *;have h2:(0:Int)<2^(x/65536).toNat:=Int.pow_pos od;exact⟨Int.ediv_nonneg h1.1 oo,Int.le_trans (Int.ediv_le_self _ h1.1) h1.2⟩
structure jZ where
 sig:Int
 flo:Int
 gate:Int
@[reducible] def kG(n:jZ):List Value:=[.int .i64 n.sig,.int .i64 n.flo,.int .i64 n.gate]
def gW(n:jZ):Prop:=(1≤n.sig∧n.sig≤1048576)∧(1≤n.flo∧n.flo≤16384)∧1≤n.gate∧n.gate≤16
instance (n:jZ):Decidable (gW n):=by unfold gW;infer_instance
def oE(n:jZ)(d:Int):Int:=if d < -32*n.sig∨32*n.sig<d then 2621440 else min (cS (d*d*47274) (n.sig*n.sig) 2) 2621440
def oM(n:jZ)(d:Int):Int:=cS (oU (oE n d)*(65536-n.flo)) 4294967296 2+n.flo
theorem aIl{n:jZ}(h:gW n)(d:Int):n.flo≤oM n d∧oM n d≤65536:=by obtain⟨-,h2,-⟩:=h;unfold oM;have h3:=aFt (oE n d);generalize oU (oE n d)=e at *;have h4:=cN h3 (show 0≤65536-n.flo∧65536-n.flo≤65536-n.flo by omega);rw[vM od];generalize e*(65536-n.flo)=m at *;omega
def qM(n:jZ)(r:Int):jZ:={ n with sig:=min (n.sig+min (max r 0) 1048576) 1048576 }
def bJ(p:List Int)(f:Nat→Int):Nat→Int
 | 0=>0
 | i+1=>bJ p f i+p.getD i 0*f i
def aU(W:Int)(i:Nat):Int:=(i:Int)%W
def aT(W:Int)(i:Nat):Int:=(i:Int)/W
def dM(g:bE):Int×Int:=(g.x+cS (bJ g.p (aU g.w) g.p.length*g.st) (aM g.p g.p.length) 2,g.y+cS (bJ g.p (aT g.w) g.p.length*g.st) (aM g.p g.p.length) 2)
def qR(n pr a b:Int):Int:=(n*pr-a*b)*65536/n/n
def oH(g:bE):Int:=qR (aM g.p g.p.length) (bJ g.p (fun i=>aU g.w i*aU g.w i) g.p.length) (bJ g.p (aU g.w) g.p.length) (bJ g.p (aU g.w) g.p.length)
def oI(g:bE):Int:=qR (aM g.p g.p.length) (bJ g.p (fun i=>aT g.w i*aT g.w i) g.p.length) (bJ g.p (aT g.w) g.p.length) (bJ g.p (aT g.w) g.p.length)
def zS(W:Int)(far:Int)(a b:Nat):Bool:=decide (far<max (max (max (aU W a-aU W b) (-(aU W a-aU W b))) (aT W a-aT W b)) (-(aT W a-aT W b)))
def qG(g:bE)(far:Int)(top:Nat):Nat→Int×Int
 | 0=>(-1,0)
 | i+1=>if (qG g far top i).2<g.p.getD i 0∧zS g.w far i top then ((i:Int),g.p.getD i 0)else qG g far top i
def aD0(g:bE):Int:=bJ g.p (fun i=>if aU g.w i=0∨aT g.w i=0∨aU g.w i=g.w-1∨aT g.w i=g.h-1 then 1 else 0) g.p.length
def vP(f:Int→Bool):Nat→Int→Int→Int→Int
 | 0,n,_,_=>n
 | k+1,n,lo,hi=>if lo≤hi then (if f ((lo+hi)/2)then vP f k ((lo+hi)/2) ((lo+hi)/2+1) hi else vP f k n lo ((lo+hi)/2-1))else n
def aD1(g:bE):Int:=if aM g.p g.p.length=0 then 0 else vP (fun n=>decide (bJ g.p (fun i=>g.p.getD i 0) g.p.length*n≤aM g.p g.p.length*aM g.p g.p.length)) (g.p.length+1) 0 1 g.p.length
def mF(p:List Int):List Int:=if aM p p.length≤0 then p else cA (fun i=>p.getD i 0*1073741824/aM p p.length) p.length
def gR(i n:Int):Int:=min (max i 0) (n-1)
def qE(q W:Int)(p:List Int):List Int:=cA (fun k=>(q*p.getD (aT W k*W+gR (aU W k-1) W).toNat 0+(256-2*q)*p.getD k 0+q*p.getD (aT W k*W+gR (aU W k+1) W).toNat 0)/256) p.length
def tO(q W H:Int)(p:List Int):List Int:=cA (fun k=>(q*p.getD (gR (aT W k-1) H*W+aU W k).toNat 0+(256-2*q)*p.getD k 0+q*p.getD (gR (aT W k+1) H*W+aU W k).toNat 0)/256) p.length
def lX(g:bE)(q:Int):bE:={ g with p:=tO q g.w g.h (qE q g.w g.p) }
def cC(g:bE):bE:={ g with p:=mF g.p }
def kP(g:bE)(dx dy:Int):bE:={ g with x:=IntKind.i64.wrap (g.x+dx),y:=IntKind.i64.wrap (g.y+dy) }
def oT(g:bE)(x y w h:Int):bE:=⟨w,h,g.x+x*g.st,g.y+y*g.st,g.st,cA (fun k=>if 0≤x+aU w k∧0≤y+aT w k∧x+aU w k<g.w∧y+aT w k<g.h then g.p.getD ((y+aT w k)*g.w+(x+aU w k)).toNat 0 else 0) (w*h).toNat⟩
def uP(g:bE):Prop:=2*g.w≤64∧2*g.h≤64∧32≤g.st∧g.st%4=0
instance (g:bE):Decidable (uP g):=by unfold uP;infer_instance
def pE(g:bE):bE:=⟨2*g.w,2*g.h,g.x-g.st/4,g.y-g.st/4,g.st/2,cA (fun k=>g.p.getD (aT (2*g.w) k/2*g.w+aU (2*g.w) k/2).toNat 0/4) (4*g.p.length)⟩
def vQ(g:bE):Prop:=g.w%2=0∧g.h%2=0∧2*g.st≤4096
instance (g:bE):Decidable (vQ g):=by unfold vQ;infer_instance
def mO(g:bE):Nat→List Int
 | 0=>List.replicate (g.p.length/4) 0
 | i+1=>(mO g i).set (aT g.w i/2*(g.w/2)+aU g.w i/2).toNat ((mO g i).getD (aT g.w i/2*(g.w/2)+aU g.w i/2).toNat 0+g.p.getD i 0)
def lL(g:bE):bE:=⟨g.w/2,g.h/2,g.x+g.st/2,g.y+g.st/2,2*g.st,mO g g.p.length⟩
structure yF where
 kind:Int
 x:Int
 y:Int
 w:Int
 h:Int
@[reducible] def sI(s:yF):List Value:=[.int .i64 s.kind,.int .i64 s.x,.int .i64 s.y,.int .i64 s.w,.int .i64 s.h]
def dG(g:bE):yF :=
 let top:=(max (mP g.p g.p.length).1 0).toNat
 ⟨3,aU g.w top-min g.w 16/2,aT g.w top-min g.h 16/2,min g.w 16,min g.h 16⟩
def bB(g:bE):yF :=
 if 134217728<aD0 g∧8≤g.w∧8≤g.h∧vQ g then ⟨2,0,0,0,0⟩
 else if aD1 g<8∧g.w≤16∧g.h≤16∧uP g then ⟨1,0,0,0,0⟩
 else if 16<g.w∨16<g.h∨g.w/4<max (dG g).x (-(dG g).x)∨g.h/4<max (dG g).y (-(dG g).y)then dG g
 else ⟨0,0,0,0,0⟩
def bS(g:bE)(s:yF):bE:=if s.kind=1 then pE g else if s.kind=2 then lL g else oT g s.x s.y s.w s.h
structure Bk where
 b:Int
 n:Int
@[reducible] def mL(k:Bk):List Value:=[.int .i64 k.b,.int .i64 k.n]
def cT(n:Int):Int:=cS (n*1099511627776) (1073741824-4*n) 1
theorem rV{n:Int}(h:0≤n∧n≤4096):0≤cT n∧cT n≤4194400:=by unfold cT;rw[aB1 oo oo];refine⟨Int.ediv_nonneg oo oo,Int.le_of_lt_add_one (Int.ediv_lt_of_lt_mul oo ?_)⟩;omega
def dO(k:Bk)(b more:Int):Bk:=⟨min b (1099511627776-min more 1099511627776)+min more 1099511627776,k.n+1⟩
def jD(b most s z:Int):Int:=if z≤0∨9223372036854775808≤z then 1099511627776 else if lS (most*s) 1 1=false then 1099511627776 else if lS (b*cS (most*s) 1 1) z 1=false then 1099511627776 else min (cS (b*cS (most*s) 1 1) z 1) 1099511627776
theorem sG{k:Bk}{b more:Int}(h:(0≤b∧b≤1099511627776)∧(0≤more∧more≤1099511627776)):0≤(dO k b more).b∧(dO k b more).b≤1099511627776:=by unfold dO;dsimp only;omega
theorem zA{b most s z:Int}(hb:0≤b∧b≤1099511627776)(hm:0≤most)(hs:0≤s):0≤jD b most s z∧jD b most s z≤1099511627776:=by
 unfold jD;split
 ·decide
 split
 ·decide
 split
 ·decide
 rename_i h1 h2 h3;have h4:0≤cS (most*s) 1 1:=by rw[aB1 (Int.mul_nonneg hm hs) od];have:=Int.mul_nonneg hm hs;omega
 have h5:=Int.mul_nonneg hb.1 h4;have h6:0≤cS (b*cS (most*s) 1 1) z 1:=by rw[aB1 h5 oo];exact Int.ediv_nonneg oo oo
 omega
def aBf(z s p:Int):Bool:=decide (z*2^(p/16).toNat≤s*65536)&&decide (z*2^(p/16).toNat*([65536,68438,71468,74632,77936,81387,84990,88753,92682,96786,101071,105546,110218,115098,120194,125515]:List Int).getD (p%16).toNat 0≤s*4294967296)
def rI(z s:Int):Nat→Int→Int→Int
 | 0,lo,_=>lo
 | k+1,lo,hi=>if lo<hi then (if aBf z s ((lo+hi+1)/2)then rI z s k ((lo+hi+1)/2) hi else rI z s k lo ((lo+hi+1)/2-1))else lo
def uQ(z s:Int):Int:=if z≤0∨s≤0 then 640 else rI z s 641 0 640
def mR(x:Nat):Nat→Nat
 | 0=>0
 | k+1=>if (mR x k+2^(31-k))*(mR x k+2^(31-k))≤x then mR x k+2^(31-k)else mR x k
theorem aOt{x:Nat}(hx:x<18446744073709551616):∀k,k≤32→mR x k*mR x k≤x∧x<(mR x k+2^(32-k))*(mR x k+2^(32-k))
 | 0,_=>⟨by simp[mR],by simpa [mR] using hx⟩
 | k+1,h=>by
  obtain⟨h1,h2⟩:=aOt hx k oo;have e:2^(32-k)=2^(31-k)+2^(31-k):=by rw[show 32-k=(31-k)+1 by omega,Nat.pow_succ];omega
  rw[e]at h2;rw[mR,show 32-(k+1)=31-k by omega];generalize mR x k=r at *;generalize 2^(31-k)=p at *;split
  ·exact⟨oa,by rw[Nat.add_assoc];exact h2⟩
  ·exact⟨h1,oo⟩
theorem aOs{x:Nat}(hx:x<18446744073709551616):mR x 32=gE x:=by obtain⟨h1,h2⟩:=aOt hx 32 (Nat.le_refl _);exact(aGb h1 h2).symm
structure dJ where
 age:Int
 jump:Int
 throw:Int
 rmost:Int
 second:Int
 trust:Int
 over:Int
 miss:Int
 power:Int
 tries:Int
 noi:jZ
 far:Int
 step:Int
 gap:Int
 need:Int
 meas:Int
 away:Int
 num:Int
 den:Int
 times:Int
 spread:Int
def nU(c:dJ):Prop:=c.age≤60000∧(1≤c.jump∧c.jump≤1048576)∧(0≤c.throw∧c.throw≤100)∧1≤c.rmost∧c.rmost≤1048576
instance (c:dJ):Decidable (nU c):=by unfold nU;infer_instance
def nA(c:dJ):Prop:=(0≤c.second∧c.second≤256)∧(1≤c.trust∧c.trust≤640)∧(1≤c.over∧c.over≤32)∧(0≤c.miss∧c.miss≤100)∧(1≤c.power∧c.power≤30)∧1≤c.tries∧c.tries≤100
instance (c:dJ):Decidable (nA c):=by unfold nA;infer_instance
def oR(c:dJ):Int :=
 if ¬nU c then 2 else if ¬nA c then 2 else if ¬gW c.noi then 2
 else if c.far<1∨15<c.far∨c.step<64∨2048<c.step∨c.gap<0∨65536<c.gap∨c.need<2∨64<c.need then 2
 else if c.meas<0∨3<c.meas∨c.away<0∨30<c.away∨c.num<1∨1048576<c.num∨c.den<1∨1048576<c.den then 1
 else if c.times<1∨65536<c.times∨c.spread<0∨85<c.spread then 1 else 0
structure lB where
 l:List cQ
 first:Nat
 n:Nat
 x:Int
 y:Int
 gap:Int
def eY(gap:Int):lB:=⟨List.replicate 64 ⟨0,0,0⟩,0,0,0,0,min (max gap 0) 1048576⟩
def xK(x:Int):Prop:=x < -16777216∨16777216<x
instance (x:Int):Decidable (xK x):=by unfold xK;infer_instance
def pC(p:lB)(dx dy:Int):lB×Bool :=
 if xK dx∨xK dy then (p,false)else if xK (p.x+dx)∨xK (p.y+dy)then (p,false)else ({ p with x:=p.x+dx,y:=p.y+dy },true)
def yX(p:lB):Prop:=0<p.n∧max (max (max (p.x-(p.l.getD ((p.first+p.n+63)%64) default).dx) (-(p.x-(p.l.getD ((p.first+p.n+63)%64) default).dx))) (p.y-(p.l.getD ((p.first+p.n+63)%64) default).dy)) (-(p.y-(p.l.getD ((p.first+p.n+63)%64) default).dy))<p.gap
instance (p:lB):Decidable (yX p):=by unfold yX;infer_instance
def kX(p:lB)(z:Int):lB :=
 if yX p then p
 else if p.n=64 then { p with l:=p.l.set (((p.first+1)%64+63)%64) ⟨p.x,p.y,z⟩,first:=(p.first+1)%64 }
 else { p with l:=p.l.set ((p.first+p.n)%64) ⟨p.x,p.y,z⟩,n:=p.n+1 }
def lV(p:lB):Nat→List cQ
 | 0=>[]
 | i+1=>lV p i++[p.l.getD ((p.first+i)%64) default]
def fW(p:lB):List cQ:=(lV p p.n).map fun s=>⟨s.dx-p.x,s.dy-p.y,s.z⟩
structure qO where
 l:List Int
 n:Int
 miss:Int
def kH:qO:=⟨List.replicate 32 0,0,0⟩
def oJ(c:dJ)(w:qO)(z s:Int):qO:=⟨w.l.set (w.n%c.over).toNat (uQ z s),w.n+1,0⟩
def aBx(c:dJ)(w:qO):Int:=if min w.n c.over=0 then 0 else aM w.l (min w.n c.over).toNat/min w.n c.over
def uT(c:dJ)(w:qO):Bool:=decide (c.miss<w.miss∨c.over≤w.n∧c.trust<aBx c w)
def aAc(c:dJ)(g:bE):Bool :=
 let a:=(mP g.p g.p.length).1;let b:=(qG g 3 a.toNat g.p.length).1;decide (0≤a∧0≤b∧g.p.getD a.toNat 0*c.second<g.p.getD b.toNat 0*256)
structure kK where
 start:Bool
 stop:Bool
 broken:Bool
 clear:Bool
 tried:Bool
 found:Bool
 missed:Bool
 lost:Bool
 over:Bool
deriving Inhabited
@[reducible] def lK(i:kK):List Value:=[.bool i.start,.bool i.stop,.bool i.broken,.bool i.clear,.bool i.tried,.bool i.found,.bool i.missed,.bool i.lost,.bool i.over]
def lT:kK:=⟨false,false,false,false,false,false,false,false,false⟩
def yR(m:Int)(i:kK):Int×Int:=if i.over=true∨i.lost=true then (1,1)else if i.found=true then (2,0)else if i.missed=true then (3,0)else (m,0)
def fG(m:Int)(i:kK):Int×Int :=
 if m<0∨4<m∨i.broken=true∨m=4 then (4,0)
 else if i.stop=true then (0,3)
 else if m=0 then (if i.start=true then (1,1)else (0,0))
 else if m=1 then (if i.clear=true then (2,2)else if i.tried=true then (0,3)else (1,0))
 else yR m i
def fM(m:Int):Bool:=decide (m=2∨m=3)
structure nP where
 kind:Int
 g:bE
 dx:Int
 dy:Int
 q:Int
 l:List Int
 st:yF
def cE:bE:=⟨0,0,0,0,0,[]⟩
structure aL where
 cf:dJ
 ln:Ln
 p:lB
 w:qO
 sat:Bool
 sums:Int
 x:Int
 y:Int
 mode:Int
 g:bE
 next:bE
 bk:Bk
 tries:Int
 void:Bool
 fail:Bool
 seq:Int
 time:Int
 deeds:List nP
 ins:List kK
 modes:List Int
def lP(x y:Int):Bool:=decide ((-68719476736≤x∧x≤68719476736)∧(-68719476736≤y∧y≤68719476736))
def xL(s:aL):Bool:=fM s.mode&&decide (1099511627776/2^s.cf.power.toNat<s.bk.b)
def qB(s:aL):Int :=
 (if fM s.mode&&aAc s.cf s.g then 1 else 0)+(if fM s.mode&&uT s.cf s.w then 2 else 0)+(if xL s then 4 else 0)+(if fM s.mode&&s.void then 8 else 0)+if s.fail then 16 else 0
def aE8(g:bE):Int:=let s:=(cS ((oH g+oI g)*(g.st*g.st)) 65536 1).toNat;if mR s 32*mR s 32<s then (mR s 32:Int)+1 else mR s 32
def rC(x:Int):Prop:=-1125899906842624≤x∧x≤1125899906842624
instance (x:Int):Decidable (rC x):=by unfold rC;infer_instance
def qS(x:Int):Prop:=-1073741824≤x∧x≤1073741824
instance (x:Int):Decidable (qS x):=by unfold qS;infer_instance
def rU(s:aL):Option jH :=
 let m:=dM s.g;let r:=aE8 s.g
 if rC m.1∧rC m.2∧rC s.x∧rC s.y∧qS (m.1-s.x)∧qS (m.2-s.y)∧qS r then some ⟨6,s.seq,s.time,m.1-s.x,m.2-s.y,r⟩else none
def cP(s0:aL):aL×List jH :=
 let s:={ s0 with seq:=(s0.seq+1)%65536 };let f:=qB s;let out:List jH:=[⟨7,s.seq,s.time,s.mode,f,0⟩]
 (s,if s.mode=2∧f=0 then (match rU s with|some c=>out++[c]|none=>out)else out)
section
variable (W H:Nat) (f:List Int)
def xO(L:List Int):Int:=if L.length=0 then 0 else mR (uN L) 32
def oK(g:bE)(n:jZ)(z:Int):Option (List Int) :=
 let m:=dM g
 if eN W H f m.1 m.2≠0 then none
 else
  let v:=qM n (xO (nL W H f (m.1/256) (m.2/256) 1)/4)
  some (cA (fun i=>if eN W H f (g.x+aU g.w i*g.st) (g.y+aT g.w i*g.st)=0 then oM v (lI W H f (g.x+aU g.w i*g.st) (g.y+aT g.w i*g.st)-z)else v.flo) g.p.length)
def dY:Nat→aL→aL
 | 0,s=>s
 | k+1,s =>
  let c:=bB s.g
  if c.kind=0 then s
  else
   let raw:=bS s.g c;let g':=cC raw;let n:Int:=g'.w*g'.h;let b:=if c.kind=1 then dO s.bk s.bk.b (2*cT n)else if c.kind=2 then dO s.bk s.bk.b (cT n)else dO s.bk (jD s.bk.b 1 (aM s.g.p s.g.p.length) (aM raw.p raw.p.length)) (cT n)
   dY k { s with g:=g',bk:=b,deeds:=s.deeds++[⟨4,cE,0,0,0,[],c⟩] }
def gV(s:aL)(z:Int):aL×kK :=
 match oK W H f s.g s.cf.noi z with
 | none=>({ s with void:=true,w:={ s.w with miss:=s.w.miss+1 } },{ lT with missed:=true })
 | some l =>
  let sm:=aM s.g.p s.g.p.length;let all:=cK s.g.p l s.g.p.length;let s1:={ s with void:=false,w:=oJ s.cf s.w all sm,g:={ s.g with p:=jX s.g.p l },bk:=dO s.bk (jD s.bk.b (jA l l.length) sm all) (cT l.length),deeds:=s.deeds++[⟨3,cE,0,0,0,l,⟨0,0,0,0,0⟩⟩] }
  (dY 4 s1,{ lT with found:=true })
def oB(s:aL):aL×kK :=
 let sc:eK:=⟨s.x,s.y,s.cf.far,s.cf.step⟩;let l:=fW s.p;let L:=aY W H f sc l s.cf.meas;let b:=fJ L L.length
 if L.length≠0∧wU b.cost (oF L b s.cf.away L.length) s.cf.num s.cf.den=true∧tI W H f sc l s.cf.meas s.cf.times=0 then ({ s with next:=tJ W H f sc l s.cf.meas s.cf.times },{ lT with clear:=true })
 else ({ s with tries:=s.tries+1,p:=eY s.p.gap },{ lT with tried:=decide (s.cf.tries≤s.tries+1) })
def lH(s:aL)(z:Int):aL×kK :=
 if s.mode=1 then
  let s1:={ s with p:=kX s.p z }
  if s.cf.need≤s1.p.n then oB W H f s1 else (s1,lT)
 else if fM s.mode then
  let r:=gV W H f s z
  (r.1,{ r.2 with lost:=r.2.lost||uT r.1.cf r.1.w,over:=xL r.1 })
 else (s,lT)
def gL(a b:Int):Bool:=(decide (a<0)==decide (b<0))&&(decide (IntKind.i64.wrap (a+b)<0) != decide (a<0))
def gK(a b:Int):Int:=if gL a b then (if a<0 then -9223372036854775808 else 9223372036854775807)else IntKind.i64.wrap (a+b)
def rG(s:aL)(dx dy:Int):aL :=
 let g:=cC (lX (kP s.g dx dy) s.cf.spread)
 { s with g:=g,bk:=dO s.bk s.bk.b (3*cT (g.w*g.h)),deeds:=s.deeds++[⟨2,cE,dx,dy,s.cf.spread,[],⟨0,0,0,0,0⟩⟩] }
def kU(s:aL)(dx dy:Int):aL×kK :=
 let s1:={ s with x:=gK s.x dx,y:=gK s.y dy,sat:=s.sat||gL s.x dx||gL s.y dy,sums:=IntKind.i64.wrap (IntKind.i64.wrap (s.sums+1)+1) }
 if s1.sat||!lP s1.x s1.y then (s1,{ lT with broken:=true })
 else
  let s2:=if s1.mode=1 then { s1 with p:=if (pC s1.p dx dy).2 then (pC s1.p dx dy).1 else eY s1.p.gap }else if fM s1.mode then rG s1 dx dy else s1
  (s2,{ lT with over:=xL s2 })
def jE(s:aL)(i:kK)(say:Bool):aL×List jH :=
 let nx:=fG s.mode i;let s1:={ s with mode:=nx.1,ins:=s.ins++[i],modes:=s.modes++[nx.1] };let s2:=if nx.2=1 then { s1 with p:=eY s1.p.gap,tries:=0,fail:=false,void:=false,g:=cE,deeds:=[] }
  else if nx.2=2 then { s1 with g:=s1.next,bk:=⟨0,0⟩,w:=kH,deeds:=[⟨1,s1.next,0,0,0,[],⟨0,0,0,0,0⟩⟩],void:=false }
  else if nx.2=3 then { s1 with fail:=i.tried&&!i.stop,void:=false,g:=cE,deeds:=[] }
  else s1
 if say∨nx.1≠s.mode then cP s2 else (s2,[])
def jW(s:aL)(x:jH):aL×List jH :=
 if s.mode=4 then cP s
 else
  let t:=s.ln.take x.kind x.seq x.time x.a;let s1:={ s with ln:=t.1 };let ok:=t.2.2.2
  if ok then jE { (lH W H f s1 t.2.2.1).1 with time:=x.time } (lH W H f s1 t.2.2.1).2 true
  else if t.2.1≠6 then (s1,[])
  else
   let r:=if x.kind=1 then kU s1 x.a x.b else if x.kind=5 then (s1,{ lT with start:=decide (x.a=1),stop:=decide (x.a=0) })else (s1,lT)
   jE { r.1 with time:=x.time } r.2 (decide (x.kind=5∨x.kind=4))
end
def kV(c:dJ)(x y:Int):aL:=⟨c,Ln.new c.age c.jump c.throw c.rmost,eY c.gap,kH,false,0,x,y,0,cE,cE,⟨0,0⟩,0,false,false,0,0,[],[],[]⟩
theorem aEc{g h:Nat→Int}: ∀{n:Nat},(∀i,i<n→g i=h i)→cA g n=cA h n
 | 0,_=>rfl
 | n+1,e=>by rw[cA,cA,aEc (n:=n) (fun i hi=>e i oo),e n oo]
theorem aH2{n i:Nat}(h:i<n):(List.replicate n (1:Int)).getD i 0=1:=by rw[List.getD_eq_getElem?_getD,List.getElem?_replicate,if_pos h];rfl
theorem aH3(p:List Int):∀m,m≤p.length→cK p (List.replicate p.length 1) m=aM p m
 | 0,_=>rfl
 | m+1,h=>by rw[cK,aM,aH3 p m oo,aH2 oo,Int.mul_one]
theorem aX9{p:List Int}(hz:0<aM p p.length):mF p=jX p (List.replicate p.length 1):=by unfold mF jX;rw[if_neg oo,aH3 p _ (Nat.le_refl _)];refine aEc fun i hi=>?_;unfold lO;rw[aH2 hi,Int.mul_one]
theorem aBk(p:List Int):(mF p).length=p.length:=by
 unfold mF;split
 ·rfl
 ·exact eP _ _
def aAl(p:List Int):Prop:=dI p∧1073741824-(p.length:Int)≤aM p p.length∧aM p p.length≤1073741824
theorem aPe(p l:List Int):(jX p l).length=p.length:=eP _ _
theorem aPf{p l:List Int}(hp:dI p)(hw:Wt l)(he:l.length=p.length)(hz:0<cK p l p.length):aAl (jX p l):=by obtain⟨h1,h2,h3⟩:=aPh hp hw he hz;have hl:=aPe p l;exact⟨fun i hi=>h1 i oo,by rw[hl];exact h2,by rw[hl];exact h3⟩
theorem aGw{p:List Int}(hp:dI p)(hz:0<aM p p.length):aAl (mF p):=by rw[aX9 hz];refine aPf hp (fun i hi=>?_) (List.length_replicate ..) (by rw[aH3 p _ (Nat.le_refl _)];exact hz);rw[List.length_replicate]at hi;rw[aH2 hi];decide
theorem aOy{p:List Int}{B:Int}: ∀n:Nat,B*(n:Int)<aM p n→∃i,i<n∧B<p.getD i 0
 | 0,h=>by simp[aM]at h
 | n+1,h=>by
  rw[aM]at h;have e:B*((n+1:Nat):Int)=B*(n:Int)+B:=by push_cast;rw[Int.mul_add,Int.mul_one]
  rw[e]at h;rcases Int.lt_or_le B (p.getD n 0) with h1|h1
  ·exact⟨n,oo,h1⟩
  ·obtain⟨i,hi,h2⟩:=aOy (p:=p) (B:=B) n oo;exact⟨i,oo,h2⟩
theorem aEh{p:List Int}(h:aAl p)(hn:0<p.length)(hm:p.length≤4096):∃i,i<p.length∧262142<p.getD i 0:=by obtain⟨-,h2,-⟩:=h;have hm2:(p.length:Int)≤4096:=oo;refine aOy (B:=262142) p.length ?_;generalize aM p p.length=S at *;generalize (p.length:Int)=n at *;omega
theorem aI3{p:List Int}(hp:dI p){i:Nat}(hi:i<p.length)(h:0<p.getD i 0):0<aM p p.length:=by have:=aE6 hp p.length (Nat.le_refl _) hi;omega
theorem qC{p:List Int}(hp:dI p)(i:Nat):0≤p.getD i 0∧p.getD i 0≤1073741824:=by
 rcases Nat.lt_or_ge i p.length with h|h
 ·exact hp i h
 ·rw[List.getD_eq_getElem?_getD,List.getElem?_eq_none h];decide
theorem aCd{q a b c:Int}(hq:0≤q∧q≤85)(ha:0≤a∧a≤1073741824)(hb:0≤b∧b≤1073741824)(hc:0≤c∧c≤1073741824):0≤(q*a+(256-2*q)*b+q*c)/256∧(q*a+(256-2*q)*b+q*c)/256≤1073741824∧86*b/256≤(q*a+(256-2*q)*b+q*c)/256:=by have h1:=cN hq ha;have h2:=cN (show 0≤256-2*q∧256-2*q≤256-2*q by omega) hb;have h3:=cN hq hc;have h4:q*a≤q*1073741824:=Int.mul_le_mul_of_nonneg_left ha.2 hq.1;have h5:q*c≤q*1073741824:=Int.mul_le_mul_of_nonneg_left hc.2 hq.1;have h6:86*b≤(256-2*q)*b:=Int.mul_le_mul_of_nonneg_right oo hb.1;generalize q*a=x at *;generalize q*c=y at *;generalize (256-2*q)*b=z at *;omega
theorem aDl(q W:Int)(p:List Int):(qE q W p).length=p.length:=eP _ _
theorem aH8(q W H:Int)(p:List Int):(tO q W H p).length=p.length:=eP _ _
theorem aNb{q W:Int}{p:List Int}(hq:0≤q∧q≤85)(hp:dI p):dI (qE q W p)∧∀i,i<p.length→86*p.getD i 0/256≤(qE q W p).getD i 0:=by
 refine⟨fun i hi=>?_,fun i hi=>?_⟩
 ·rw[aDl]at hi;unfold qE;rw[mT _ hi];have:=aCd hq (qC hp (aT W i*W+gR (aU W i-1) W).toNat) (qC hp i) (qC hp (aT W i*W+gR (aU W i+1) W).toNat);exact⟨this.1,this.2.1⟩
 ·unfold qE;rw[mT _ hi];exact(aCd hq (qC hp (aT W i*W+gR (aU W i-1) W).toNat) (qC hp i) (qC hp (aT W i*W+gR (aU W i+1) W).toNat)).2.2
theorem aYj{q W H:Int}{p:List Int}(hq:0≤q∧q≤85)(hp:dI p):dI (tO q W H p)∧∀i,i<p.length→86*p.getD i 0/256≤(tO q W H p).getD i 0:=by
 refine⟨fun i hi=>?_,fun i hi=>?_⟩
 ·rw[aH8]at hi;unfold tO;rw[mT _ hi];have:=aCd hq (qC hp (gR (aT W i-1) H*W+aU W i).toNat) (qC hp i) (qC hp (gR (aT W i+1) H*W+aU W i).toNat);exact⟨this.1,this.2.1⟩
 ·unfold tO;rw[mT _ hi];exact(aCd hq (qC hp (gR (aT W i-1) H*W+aU W i).toNat) (qC hp i) (qC hp (gR (aT W i+1) H*W+aU W i).toNat)).2.2
def cO(g:bE):Prop:=kY g.w g.h g.st∧(g.p.length:Int)=g.w*g.h∧aAl g.p
theorem cO.len{g:bE}(h:cO g):0<g.p.length∧g.p.length≤4096:=by obtain⟨⟨h1,h2,-⟩,h3,-⟩:=h;have:=cN (A:=64) (B:=64) (show 0≤g.w∧g.w≤64 by omega) (show 0≤g.h∧g.h≤64 by omega);have h4:=Int.mul_pos (show 0<g.w by omega) (show 0<g.h by omega);omega
theorem aOr{g:bE}{q:Int}(hg:cO g)(hq:0≤q∧q≤85)(dx dy:Int):dI (lX (kP g dx dy) q).p∧0<aM (lX (kP g dx dy) q).p (lX (kP g dx dy) q).p.length∧cO (cC (lX (kP g dx dy) q)):=by obtain⟨hl0,hl1⟩:=hg.len;obtain⟨h1,h2,h3⟩:=hg;have ep:(lX (kP g dx dy) q).p=tO q g.w g.h (qE q g.w g.p):=rfl;obtain⟨i,hi,hb⟩:=aEh h3 hl0 hl1;obtain⟨p1,p2⟩:=aNb (W:=g.w) hq h3.1;obtain⟨p3,p4⟩:=aYj (W:=g.w) (H:=g.h) hq p1;have hlx:=aDl q g.w g.p;have hly:=aH8 q g.w g.h (qE q g.w g.p);have b1:=p2 i hi;have b2:=p4 i oo;have hs:=aI3 p3 (i:=i) oo oo;rw[ep];refine⟨p3,hs,h1,?_,aGw p3 hs⟩;show ((mF (tO q g.w g.h (qE q g.w g.p))).length:Int)=g.w*g.h;rw[aBk,hly,hlx];exact h2
theorem aIh{g:bE}{l:List Int}(hg:cO g)(hl:Wt l)(he:l.length=g.p.length)(h1:∀i,i<l.length→1≤l.getD i 0):0<cK g.p l g.p.length∧cO { g with p:=jX g.p l }:=by obtain⟨hl0,hl1⟩:=hg.len;obtain⟨g1,g2,g3⟩:=hg;obtain⟨i,hi,hb⟩:=aEh g3 hl0 hl1;have hz:=bD1 g3.1 hl he hi oo (by have:=h1 i oo;omega);refine⟨hz,g1,?_,aPf g3.1 hl he hz⟩;show ((jX g.p l).length:Int)=g.w*g.h;rw[aPe];exact g2
