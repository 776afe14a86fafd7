import Derived.Test.YtpmkboockihdbaaGreatP37
import Derived.Test.YtpmkboockihdbaaGreatP39
import Derived.Test.YtpmkboockihdbaaGreatP40
import Derived.Test.YtpmkboockihdbaaGreatP41
set_option maxHeartbeats 512000000
set_option maxRecDepth 4000
set_option linter.unusedVariables false
set_option linter.unusedSimpArgs false
namespace Go.Proofs.YtpmkboockihdbaaGreat
open Go.RowKit _root_.Go.Proofs.Tryz
@[reducible] def zW0:List Value:=.int .i64 0::.int .i64 0::.int .i64 0::.int .i64 0::.int .i64 0::.int .i64 0::(aC .i64 (List.replicate 32 0)++[.int .i64 0,.int .i64 0])
def zWt:Value:=.agg zW0.toArray
instance (priority:=3000):bH prog 169 40 320 zWt:=⟨Tryz.t169,by kernel_rfl,by kernel_rfl,rfl,rfl⟩
instance:ZC zWt zW0:=⟨rfl⟩
instance:fT (aC .i64 (List.replicate 32 0)) 32:=⟨by rw[gN,List.length_replicate]⟩
attribute [local irreducible] OJ J bO Code.wpIn wpListIn Oper.wpIn bodyPost CallsIn aF
theorem aPm(c:dJ)(w:World)(hok:nA c):aF prog 78 [.agg (aBg c).toArray] [] w (fun v S'=>v=.tuple #[.agg (jI c kH []).toArray,.int .i64 0]∧S'=[]):=by have iC:=wcheck_cv c;rw[if_pos hok]at iC;refine aJ func78 rfl ntmps78 rfl ⟨aE,.nil⟩ (fun _=>?_);simp only[aG];refine aB;refine bI;exact⟨rfl,rfl⟩
theorem aWl(g:bE)(A:Option Addr)(c a b:Nat)(far:Int)(w:World)(hw:1≤g.w∧g.w≤64)(ha:a<4096)(hb:b<4096):
  aF prog 204 [.agg (aQ g A c).toArray,.int .i64 a,.int .i64 b,.int .i64 far] [] w (fun v S'=>v=.bool (zS g.w far a b)∧S'=[]):=by
 obtain⟨gw,gh,gx,gy,gs,p⟩:=g;dsimp only at hw ⊢;dsimp only[aQ];have a1:=aCu hw.1 a;have a2:=aO1 hw.1 a;have b1:=aCu hw.1 b;have b2:=aO1 hw.1 b;unfold zS;unfold aU aT at *;refine aJ func204 rfl ntmps204 rfl ⟨aE,.nil⟩ (fun _=>?_);simp only[aG];refine aB;all_goals exact aK rfl rfl (.nil _) ⟨rfl,rfl⟩
theorem aOa(g:bE)(far:Int)(top:Nat):∀i,-1≤(qG g far top i).1∧(qG g far top i).1<i
 | 0=>by simp[qG]
 | i+1=>by
  have:=aOa g far top i;rw[qG];split
  ·dsimp only;omega
  ·omega
theorem bAs(g:bE)(A:Option Addr)(c:Nat)(far:Int)(w:World)(hr:bF w (aV []) A g.p.length c 1 (aC .i64 g.p))(hg:cO g):
  aF prog 149 [.agg (aQ g A c).toArray,.int .i64 far] [] w (fun v S'=>v=.int .i64 (qG g far (mP g.p g.p.length).1.toNat g.p.length).1∧S'=[]):=by
 have hm4:=hg.len;obtain⟨k,hk2,hk1,-,-⟩:=aA3 hg.2.2 hm4.1 hm4.2;have hP:=fun w hw=>aH9 g A c w hw oo;have hA:=fun (i:Nat) (hi:i<g.p.length) w=>aWl g A c i k far w (by have:=hg.1;unfold kY at this;omega) oo oo;rw[hk1]at hP ⊢;rw[Int.toNat_natCast];have hst:∀i,qG g far k (i+1)=if (qG g far k i).2<g.p.getD i 0∧zS g.w far i k then ((i:Int),g.p.getD i 0)else qG g far k i:=fun _=>rfl;have hs0:qG g far k 0=(-1,0):=rfl;generalize qG g far k=sc at *;obtain⟨gw,gh,gx,gy,gs,p⟩:=g;dsimp only at hr hm4 hk2 hP hA hst ⊢;dsimp only[aQ]at *;clear hg;have hr0:=hr;obtain⟨bA,oA,rfl,hRA⟩:=hr.at_ hm4.1;refine aJ func149 rfl ntmps149 rfl ⟨aE,.nil⟩ (fun _=>?_);simp only[aG];refine aB;refine bQ rfl rfl rfl (fun w hw=>hP w ⟨hr0.h.go hw (aD.nil _)⟩) ?_;refine aB;rename_i b2;refine bT (X:=Nat) (fun i=>i≤p.length) (fun i=>[(1,.int .i64 far),(2,.pointer (some ⟨b2,0,none⟩)),(5,.int .i64 k),(6,.int .i64 (sc i).1),(7,.int .i64 (sc i).2),(13,.slice (some ⟨bA,oA,none⟩) p.length c),(14,.int .i64 p.length),(15,.int .i64 i)]) (fun _=>[.blk b2 37 [.int .i64 gw,.int .i64 gh,.int .i64 gx,.int .i64 gy,.int .i64 gs,.slice (some ⟨bA,oA,none⟩) p.length c]]) (fun i=>p.length-i) 0 (Nat.zero_le _) ⟨rfl,rfl,rfl,by rw[hs0];rfl,by rw[hs0];rfl,rfl,rfl,rfl,trivial⟩ aA.au ?_;intro i hi;rcases Nat.lt_or_ge i p.length with h|h
 ·have e:=hst i;have iA:CV prog 204 [.agg #[.int .i64 gw,.int .i64 gh,.int .i64 gx,.int .i64 gy,.int .i64 gs,.slice (some ⟨bA,oA,none⟩) p.length c],.int .i64 i,.int .i64 k,.int .i64 far] (.bool (zS gw far i k)) True:=⟨fun _ w=>hA i h w⟩;clear hA hst hP;generalize zS gw far i k=ap at *;generalize hsc:sc i=q at *;refine aB;all_goals
   refine aN (i+1) h (by show p.length-(i+1)<p.length-i;omega) ⟨rfl,rfl,rfl,?_,?_,rfl,rfl,by simp[aH],trivial⟩ aA.au;all_goals
    first
    | (rw[e,if_pos ⟨oa,oa⟩];rfl)
    | (rw[e,if_neg (by rintro⟨h1,h2⟩;first|omega|contradiction)];rfl)
 ·obtain rfl:i=p.length:=oo;refine aB;exact aK rfl rfl (.nil _) ⟨rfl,rfl⟩
theorem bC6(g:bE)(A:Option Addr)(c:Nat)(cf:dJ)(w:World)(hr:bF w (aV []) A g.p.length c 1 (aC .i64 g.p))(hg:cO g)(hm:nA cf):
  aF prog 94 [.agg (aQ g A c).toArray,.agg (aBg cf).toArray] [] w (fun v S'=>v=.bool (aAc cf g)∧S'=[]):=by
 have hm4:=hg.len;obtain⟨k,hk2,hk1,-,-⟩:=aA3 hg.2.2 hm4.1 hm4.2;have hP:=fun w hw=>aH9 g A c w hw oo;have hS:=fun w hw=>bAs g A c 3 w hw hg;have hsi:=aOa g 3 (mP g.p g.p.length).1.toNat g.p.length;have hp:=hg.2.2.1;obtain⟨⟨s1,s2⟩,-⟩:=hm;unfold aAc;dsimp only;rw[hk1]at hP hS hsi ⊢;rw[Int.toNat_natCast]at hS hsi ⊢;generalize (qG g 3 k g.p.length).1=b at *;obtain⟨gw,gh,gx,gy,gs,p⟩:=g;dsimp only at hr hm4 hk2 hP hS hsi hp ⊢;dsimp only[aQ]at *;clear hg;have hr0:=hr;obtain⟨bA,oA,rfl,hRA⟩:=hr.at_ hm4.1;have pk:=hp k hk2;refine aJ func94 rfl ntmps94 rfl ⟨aE,.nil⟩ (fun _=>?_);simp only[aG];refine aB;rename_i b2 b3;refine fL [.blk b2 37 [.int .i64 gw,.int .i64 gh,.int .i64 gx,.int .i64 gy,.int .i64 gs,.slice (some ⟨bA,oA,none⟩) p.length c]] (0::1::2::3::4::5::[]) aA.au ?_;intro _;refine cF;refine bQ rfl rfl rfl (fun w hw=>hP w ⟨hr0.h.go hw (aD.nil _)⟩) ?_;refine cF;refine bQ rfl rfl rfl (fun w hw=>hS w ⟨hr0.h.go hw (aD.nil _)⟩) ?_;refine cF;rcases Int.lt_or_le b 0 with hb|hb
 ·rw[show decide (0≤(k:Int)∧0≤b∧p.getD k 0*cf.second<p.getD b.toNat 0*256)=false from decide_eq_false oo];refine kC (0::1::2::3::4::5::6::7::8::9::10::11::12::13::14::15::16::17::18::19::20::21::22::23::[]) ?_;intro _;refine gP;all_goals first
   | exact aK rfl rfl (.nil _) ⟨rfl,rfl⟩
   | (exfalso;omega)
 ·obtain⟨kb,rfl⟩:∃kb:Nat,b=kb:=⟨b.toNat,oo⟩;rw[Int.toNat_natCast];have pb:=hp kb oo;have mk:=cN (a:=p.getD k 0) (b:=cf.second) (A:=1073741824) (B:=256) pk oo;clear hp hP hS;refine kC (0::1::2::3::4::5::6::7::8::9::10::11::12::13::14::15::16::17::18::19::20::21::22::23::[]) ?_;intro _;refine gP;all_goals first
   | (exfalso;omega)
   | exact aK rfl rfl (.nil _) ⟨(congrArg Value.bool (by rw[Bool.eq_iff_iff];simp only[decide_eq_true_eq,Bool.and_eq_true,Bool.or_eq_true,Bool.not_eq_true,beq_iff_eq,bne_iff_ne,true_iff,iff_true,false_iff,iff_false,Bool.false_eq_true,not_false_eq_true,ne_eq];omega)),rfl⟩
theorem aSg(x:Nat)(w:World)(hx:x<9223372036854775808):aF prog 226 [.int .u64 x] [] w (fun v S'=>v=.int .u64 (if gE x*gE x<x then ((gE x:Nat):Int)+1 else ((gE x:Nat):Int))∧S'=[]):=by
 have h1:=aB8 (x:=x) oo;have h2:=(aD9 x).1;have hF:=fun w=>aKt x w oo;generalize gE x=r at *;have h3:=Nat.mul_le_mul (show r≤4294967295 by omega) (show r≤4294967295 by omega);have iM:∀w0 W H t u a b,MS prog w0 W H (.binOp .mul t a b u) [.int .u64 (r:Int),.int .u64 (r:Int)] (.int .u64 ((r*r:Nat):Int)) True:=fun _ _ _ _ _ _ _=>bM inferInstance (by show (0:Int)≤_∧_≤(18446744073709551615:Int);rw[← Int.natCast_mul];omega) (by rw[Int.natCast_mul]);refine aJ func226 rfl ntmps226 rfl ⟨aE,.nil⟩ (fun _=>?_);simp only[aG];generalize r*r=rr at *;refine aB;refine bQ rfl rfl rfl (fun w _=>hF w) ?_;by_cases h:rr<x
 ·rw[if_pos h];refine aB;all_goals exact aK rfl rfl (.nil _) ⟨rfl,rfl⟩
 ·rw[if_neg h];refine aB;all_goals exact aK rfl rfl (.nil _) ⟨rfl,rfl⟩
theorem bBi(g:bE)(A:Option Addr)(c:Nat)(w:World)(hr:bF w (aV []) A g.p.length c 1 (aC .i64 g.p))(hg:cO g):
  aF prog 175 [.agg (aQ g A c).toArray] [] w (fun v S'=>v=.tuple #[.int .i64 (aE8 g),.bool true]∧S'=[]):=by
 obtain⟨s1,s2,s3⟩:=bBj hg;obtain⟨v1,v2⟩:=aPc hg;have hV:=fun w hw=>bCh g A c w hw hg;have hs:=hg.1;unfold kY at hs;have hst:=cN (a:=g.st) (b:=g.st) (A:=4096) (B:=4096) oo oo;unfold aE8;dsimp only;rw[s3];have iM:=muldiv_any (oH g+oI g) (g.st*g.st) 65536 1;obtain⟨n,hn⟩:∃n:Nat,cS ((oH g+oI g)*(g.st*g.st)) 65536 1=n:=⟨_,(Int.toNat_of_nonneg s2.1).symm⟩;rw[hn]at iM s2 ⊢;rw[Int.toNat_natCast];have hC:=fun w=>aSg n w oo;have h1:=aB8 (x:=n) oo;generalize hq:(if gE n*gE n<n then ((gE n:Nat):Int)+1 else ((gE n:Nat):Int))=q at *;have hqb:0≤q∧q≤4294967296:=by rw[← hq];split<;>omega
 generalize oH g=vx at *;generalize oI g=vy at *;obtain⟨gw,gh,gx,gy,gs,p⟩:=g;dsimp only at hr hs hst s1 iM hV ⊢;dsimp only[aQ]at *;generalize hss:gs*gs=ss at *;have iS:∀w0 W H t u a b,MS prog w0 W H (.binOp .mul t a b u) [.int .i64 gs,.int .i64 gs] (.int .i64 ss) True:=fun _ _ _ _ _ _ _=>bM inferInstance (by rw[hss];show (-9223372036854775808:Int)≤_∧_≤(9223372036854775807:Int);omega) (congrArg (Value.int .i64) hss);clear hg hq hn s3;refine aJ func175 rfl ntmps175 rfl ⟨aE,.nil⟩ (fun _=>?_);simp only[aG];refine aB;refine lf rfl rfl rfl (S:=[]) (fun w hw ho=>hV w ⟨hr.h.go hw (aD.nil _)⟩) ?_;rintro v S' ⟨m,rfl,rfl⟩;refine aB;refine bQ rfl rfl rfl (fun w _=>hC w) ?_;refine aB;refine bI;exact⟨rfl,rfl⟩
theorem aKr(x:Int):CV prog 177 [.int .i64 x] (.bool (decide (-1073741824≤x∧x≤1073741824))) True:=⟨fun _ w=>by refine aJ func177 rfl ntmps177 rfl ⟨aE,.nil⟩ (fun n=>?_);simp only[aG];refine aB;all_goals exact aK rfl rfl (.nil _) ⟨(congrArg Value.bool (by rw[Bool.eq_iff_iff];simp only[decide_eq_true_eq,Bool.and_eq_true,Bool.or_eq_true,Bool.not_eq_true,beq_iff_eq,bne_iff_ne,true_iff,iff_true,false_iff,iff_false,Bool.false_eq_true,not_false_eq_true,ne_eq];omega)),rfl⟩⟩
theorem aFw{x:Int}(h:qS x)(w:World):aF prog 177 [.int .i64 x] [] w (fun v S'=>v=.bool true∧S'=[]):=by have:=(aKr x).h trivial w;rw[decide_eq_true (show -1073741824≤x∧x≤1073741824 from h)]at this;exact this
theorem aFv{x:Int}(h:¬qS x)(w:World):aF prog 177 [.int .i64 x] [] w (fun v S'=>v=.bool false∧S'=[]):=by have:=(aKr x).h trivial w;rw[decide_eq_false (show ¬(-1073741824≤x∧x≤1073741824)from h)]at this;exact this
theorem aDh{x:Int}(h:rC x):CV prog 176 [.int .i64 x] (.bool true) True:=by have:=near_cv x;rw[decide_eq_true (show -1125899906842624≤x∧x≤1125899906842624 from h)]at this;exact this
theorem aDg{x:Int}(h:¬rC x):CV prog 176 [.int .i64 x] (.bool false) True:=by have:=near_cv x;rw[decide_eq_false (show ¬(-1125899906842624≤x∧x≤1125899906842624)from h)]at this;exact this
theorem aSz(s:aL)(A:Option Addr)(c:Nat)(w:World)(hr:bF w (aV []) A s.g.p.length c 1 (aC .i64 s.g.p))(hg:cO s.g)(hx : -4611686018427387904≤s.g.x∧s.g.x≤4611686018427387904)(hy : -4611686018427387904≤s.g.y∧s.g.y≤4611686018427387904):
  aF prog 131 [.agg (aQ s.g A c).toArray,.agg #[.int .i64 s.x,.int .i64 s.y],.int .u16 s.seq,.int .u32 s.time] [] w
   (fun v S'=>((∃f,rU s=some f∧v=.tuple #[.agg (dR f).toArray,.bool true])∨(rU s=none∧v=.tuple #[.agg (dR ⟨0,0,0,0,0,0⟩).toArray,.bool false]))∧S'=[]):=by
 have hM:=fun w hw=>aMa s.g A c w hw hg hx hy;have hS:=fun w hw=>bBi s.g A c w hw hg;unfold rU;dsimp only;generalize dM s.g=m at *;obtain⟨m1,m2⟩:=m;generalize aE8 s.g=sr at *;obtain⟨cf,ln,pp,wt,sat,sums,X,Y,md,g,nx,bk,tries,void,fail,seq,time,deeds,ins,modes⟩:=s;dsimp only at hr hM hS ⊢;obtain⟨gw,gh,gx,gy,gs,p⟩:=g;dsimp only at hr hM hS ⊢;dsimp only[aQ]at *;clear hg hx hy;refine aJ func131 rfl ntmps131 rfl ⟨aE,.nil⟩ (fun _=>?_);simp only[aG];refine aB;refine bQ rfl rfl rfl (fun w hw=>hM w ⟨hr.h.go hw (aD.nil _)⟩) ?_;refine aB;refine bQ rfl rfl rfl (fun w hw=>hS w ⟨hr.h.go hw (aD.nil _)⟩) ?_;by_cases n1:rC m1;case neg =>
  have i1:=aDg n1;refine aB;refine bI;exact⟨.inr ⟨if_neg (by rintro⟨h1,h2,h3,h4,-⟩;exact n1 h1),rfl⟩,rfl⟩
 have i1:=aDh n1;by_cases n2:rC m2;case neg =>
  have i2:=aDg n2;refine aB;refine bI;exact⟨.inr ⟨if_neg (by rintro⟨h1,h2,h3,h4,-⟩;exact n2 h2),rfl⟩,rfl⟩
 have i2:=aDh n2;by_cases n3:rC X;case neg =>
  have i3:=aDg n3;refine aB;refine bI;exact⟨.inr ⟨if_neg (by rintro⟨h1,h2,h3,h4,-⟩;exact n3 h3),rfl⟩,rfl⟩
 have i3:=aDh n3;by_cases n4:rC Y;case neg =>
  have i4:=aDg n4;refine aB;refine bI;exact⟨.inr ⟨if_neg (by rintro⟨h1,h2,h3,h4,-⟩;exact n4 h4),rfl⟩,rfl⟩
 have i4:=aDh n4;have q1:=id n1;have q2:=id n2;have q3:=id n3;have q4:=id n4;unfold rC at q1 q2 q3 q4;refine aB;by_cases f1:qS (m1-X);case neg =>
  refine lb rfl rfl rfl rfl (S:=[]) (fun w hw ho=>aFv f1 w) ?_;rintro v S' ⟨rfl,rfl⟩;refine aB;refine bI;exact⟨.inr ⟨if_neg (by rintro⟨-,-,-,-,h5,-⟩;exact f1 h5),rfl⟩,rfl⟩
 refine lb rfl rfl rfl rfl (S:=[]) (fun w hw ho=>aFw f1 w) ?_;rintro v S' ⟨rfl,rfl⟩;refine aB;by_cases f2:qS (m2-Y);case neg =>
  refine lb rfl rfl rfl rfl (S:=[]) (fun w hw ho=>aFv f2 w) ?_;rintro v S' ⟨rfl,rfl⟩;refine aB;refine bI;exact⟨.inr ⟨if_neg (by rintro⟨-,-,-,-,-,h5,-⟩;exact f2 h5),rfl⟩,rfl⟩
 refine lb rfl rfl rfl rfl (S:=[]) (fun w hw ho=>aFw f2 w) ?_;rintro v S' ⟨rfl,rfl⟩;refine aB;by_cases f3:qS sr;case neg =>
  refine lb rfl rfl rfl rfl (S:=[]) (fun w hw ho=>aFv f3 w) ?_;rintro v S' ⟨rfl,rfl⟩;refine aB;refine bI;exact⟨.inr ⟨if_neg (by rintro⟨-,-,-,-,-,-,h5⟩;exact f3 h5),rfl⟩,rfl⟩
 refine lb rfl rfl rfl rfl (S:=[]) (fun w hw ho=>aFw f3 w) ?_;rintro v S' ⟨rfl,rfl⟩;have g1:=id f1;have g2:=id f2;have g3:=id f3;unfold qS at g1 g2 g3;refine aB;refine bI;exact⟨.inl ⟨_,if_pos ⟨n1,n2,n3,n4,f1,f2,f3⟩,rfl⟩,rfl⟩
def jN(c:dJ):List Value:=qP c
def sC(s:Ln):List Value:=uJ s
instance (c:dJ):fT (jN c) 23:=⟨rfl⟩
instance (s:Ln):fT (sC s) 20:=⟨rfl⟩
instance (c:dJ):cZ (jN c) 8 (.int .i64 c.power):=⟨rfl⟩
instance (c:dJ):cZ (jN c) 9 (.int .i64 c.tries):=⟨rfl⟩
instance (c:dJ):cZ (jN c) 13 (.int .i64 c.far):=⟨rfl⟩
instance (c:dJ):cZ (jN c) 14 (.int .i64 c.step):=⟨rfl⟩
instance (c:dJ):cZ (jN c) 16 (.int .i64 c.need):=⟨rfl⟩
instance (c:dJ):cZ (jN c) 17 (.int .i64 c.meas):=⟨rfl⟩
instance (c:dJ):cZ (jN c) 18 (.int .i64 c.away):=⟨rfl⟩
instance (c:dJ):cZ (jN c) 19 (.int .i64 c.num):=⟨rfl⟩
instance (c:dJ):cZ (jN c) 20 (.int .i64 c.den):=⟨rfl⟩
instance (c:dJ):cZ (jN c) 21 (.int .i64 c.times):=⟨rfl⟩
instance (c:dJ):cZ (jN c) 22 (.int .i64 c.spread):=⟨rfl⟩
instance (priority:=3000):nR 4 4 8:=⟨rfl⟩
instance (priority:=3000):nR 4 5 9:=⟨rfl⟩
instance (priority:=3000):nR 283 1 284:=⟨rfl⟩
instance (c:dJ):mK (jN c) 4 6 (aBg c):=⟨rfl,rfl⟩
instance (c:dJ):mK (jN c) 10 3 (kG c.noi):=⟨rfl,rfl⟩
structure bR where
 ptr:Option Addr
 Ag:Option Addr
 cg:Nat
 An:Option Addr
 cn:Nat
 Ad:Option Addr
 cd:Nat
 Ai:Option Addr
 ci:Nat
 Am:Option Addr
 cm:Nat
@[reducible] def wE(s:aL)(a:bR):List Value:=[.bool s.sat,.int .i64 s.sums,.int .i64 s.x,.int .i64 s.y,.int .i64 s.mode,.int .i64 s.g.w,.int .i64 s.g.h,.int .i64 s.g.x,.int .i64 s.g.y,.int .i64 s.g.st,.slice a.Ag s.g.p.length a.cg,.int .i64 s.next.w,.int .i64 s.next.h,.int .i64 s.next.x,.int .i64 s.next.y,.int .i64 s.next.st,.slice a.An s.next.p.length a.cn,.int .i64 s.bk.b,.int .i64 s.bk.n,.int .i64 s.tries,.bool s.void,.bool s.fail,.int .u16 s.seq,.int .u32 s.time,.slice a.Ad s.deeds.length a.cd,.slice a.Ai s.ins.length a.ci,.slice a.Am s.modes.length a.cm]
@[reducible] def aI(s:aL)(a:bR):List Value:=jN s.cf++(.pointer a.ptr::(sC s.ln++eZ s.p (jI s.cf s.w (wE s a))))
structure jS(s:aL):Prop where
 pl:s.p.l.length=64
 wl:s.w.l.length=32
theorem gT{s:aL}(h:jS s):fT (aR cD s.p.l) 192:=⟨by rw[lF,h.pl]⟩
theorem jU{s:aL}(h:jS s):fT (aC .i64 s.w.l) 32:=⟨by rw[gN,h.wl]⟩
theorem aGp(g:Nat)(s:aL)(a:bR)(w:World)(hown:aZ [.blk g 173 (aI s a)] w)(hL:jS s):
  aF prog 25 [.pointer (some ⟨g,0,none⟩)] [.blk g 173 (aI s a)] w (fun v S'=>v=.int .i64 s.mode∧S'=[.blk g 173 (aI s a)]):=by
 have i1:=gT hL;have i2:=jU hL;refine aJ func25 rfl ntmps25 rfl hown (fun _=>?_);simp only[aG];refine aB;exact aK rfl rfl aA.au ⟨rfl,rfl⟩
theorem aN4(g:Nat)(s:aL)(a:bR)(w:World)(hown:aZ [.blk g 173 (aI s a)] w)(hL:jS s)(hp:1≤s.cf.power∧s.cf.power≤30):
  aF prog 139 [.pointer (some ⟨g,0,none⟩)] [.blk g 173 (aI s a)] w (fun v S'=>v=.bool (xL s)∧S'=[.blk g 173 (aI s a)]):=by
 have i1:=gT hL;have i2:=jU hL;unfold xL;have i3:=holds_cv s.mode;have i4:=bover_cv s.bk s.cf.power;unfold fM;generalize hd:decide (s.mode=2∨s.mode=3)=d at *;generalize decide (1099511627776/2^s.cf.power.toNat<s.bk.b)=e at *;refine aJ func139 rfl ntmps139 rfl hown (fun _=>?_);simp only[aG];cases d
 ·refine aB;refine kC (0::1::2::3::4::5::6::7::8::9::10::11::12::13::14::15::16::17::18::[]) ?_;intro _;refine aC1;all_goals exact aK rfl rfl aA.au ⟨rfl,rfl⟩
 ·refine aB;refine kC (0::1::2::3::4::5::6::7::8::9::10::11::12::13::14::15::16::17::18::[]) ?_;intro _;refine aC1;all_goals exact aK rfl rfl aA.au ⟨rfl,rfl⟩
def flN(a b c d e:Bool):Int:=(if a then 1 else 0)+(if b then 2 else 0)+(if c then 4 else 0)+(if d then 8 else 0)+if e then 16 else 0
def flT(a b c d e:Bool):Nat→Int
 | 0=>0
 | 1=>if a then 1 else 0
 | 2=>(if a then 1 else 0)+(if b then 2 else 0)
 | 3=>(if a then 1 else 0)+(if b then 2 else 0)+(if c then 4 else 0)
 | 4=>(if a then 1 else 0)+(if b then 2 else 0)+(if c then 4 else 0)+(if d then 8 else 0)
 | _=>flN a b c d e
theorem aU2(a b c d e:Bool):CV prog 93 [.bool a,.bool b,.bool c,.bool d,.bool e] (.int .i32 (flN a b c d e)) True:=⟨fun _ w=>by
 refine aJ func93 rfl ntmps93 rfl ⟨aE,.nil⟩ (fun _=>?_);simp only[aG];refine aB;refine bT (X:=Nat) (fun i=>i≤5) (fun i=>[(11,.int .i32 (flT a b c d e i)),(19,.agg #[.bool a,.bool b,.bool c,.bool d,.bool e]),(20,.int .i64 i)]) (fun _=>[]) (fun i=>5-i) 0 (Nat.zero_le _) ⟨rfl,rfl,rfl,trivial⟩ (.nil _) ?_;intro i hi;rcases Nat.lt_or_ge i 5 with h|h
 ·have h5:i=0∨i=1∨i=2∨i=3∨i=4:=oo;rcases h5 with rfl|rfl|rfl|rfl|rfl
  ·cases a
   ·refine aB;exact aN 1 od od ⟨by kernel_rfl,rfl,rfl,trivial⟩ (.nil _)
   ·refine aB;exact aN 1 od od ⟨by kernel_rfl,rfl,rfl,trivial⟩ (.nil _)
  ·cases b
   ·refine aB;refine aN 2 od od ⟨?_,rfl,rfl,trivial⟩ (.nil _);cases a<;>kernel_rfl
   ·refine aB;refine aN 2 od od ⟨?_,rfl,rfl,trivial⟩ (.nil _);cases a<;>kernel_rfl
  ·cases c
   ·refine aB;refine aN 3 od od ⟨?_,rfl,rfl,trivial⟩ (.nil _);cases a<;>cases b<;>kernel_rfl
   ·refine aB;refine aN 3 od od ⟨?_,rfl,rfl,trivial⟩ (.nil _);cases a<;>cases b<;>kernel_rfl
  ·cases d
   ·refine aB;refine aN 4 od od ⟨?_,rfl,rfl,trivial⟩ (.nil _);cases a<;>cases b<;>cases c<;>kernel_rfl
   ·refine aB;refine aN 4 od od ⟨?_,rfl,rfl,trivial⟩ (.nil _);cases a<;>cases b<;>cases c<;>kernel_rfl
  ·cases e
   ·refine aB;refine aN 5 od od ⟨?_,rfl,rfl,trivial⟩ (.nil _);cases a<;>cases b<;>cases c<;>cases d<;>kernel_rfl
   ·refine aB;refine aN 5 od od ⟨?_,rfl,rfl,trivial⟩ (.nil _);cases a<;>cases b<;>cases c<;>cases d<;>kernel_rfl
 ·obtain rfl:i=5:=oo;refine aB;exact aK rfl rfl (.nil _) ⟨rfl,rfl⟩⟩
