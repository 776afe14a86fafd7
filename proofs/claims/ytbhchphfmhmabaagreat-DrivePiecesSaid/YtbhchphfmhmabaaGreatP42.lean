import Derived.Test.YtbhchphfmhmabaaGreatP37
import Derived.Test.YtbhchphfmhmabaaGreatP39
import Derived.Test.YtbhchphfmhmabaaGreatP40
import Derived.Test.YtbhchphfmhmabaaGreatP41
set_option maxHeartbeats 512000000
set_option maxRecDepth 4000
set_option linter.unusedVariables false
set_option linter.unusedSimpArgs false
namespace Go.Proofs.YtbhchphfmhmabaaGreat
open Go.RowKit _root_.Go.Proofs.Tryz
@[reducible] def zW0:List Value:=.int .i64 0::.int .i64 0::.int .i64 0::.int .i64 0::.int .i64 0::.int .i64 0::(aD .i64 (List.replicate 32 0)++[.int .i64 0,.int .i64 0])
def zWt:Value:=.agg zW0.toArray
instance (priority:=3000):bF prog 121 40 320 zWt:=⟨Tryz.t121,by kernel_rfl,by kernel_rfl,rfl,rfl⟩
instance:ZC zWt zW0:=⟨rfl⟩
instance:fF (aD .i64 (List.replicate 32 0)) 32:=⟨by rw[fW,List.length_replicate]⟩
attribute [local irreducible] OJ J bM Code.wpIn wpListIn Oper.wpIn bodyPost CallsIn aF
theorem aOu(c:dF)(w:World)(hok:lZ c):aF prog 60 [.agg (aAu c).toArray] [] w (fun v S'=>v=.tuple #[.agg (gQ c jH []).toArray,.int .i64 0]∧S'=[]):=by have iC:=wcheck_cv c;rw[if_pos hok]at iC;refine aJ func60 rfl ntmps60 rfl ⟨aE,.nil⟩ (fun _=>?_);simp only[aG];refine aB;refine bK;exact⟨rfl,rfl⟩
theorem aW1(g:bE)(A:Option Addr)(c a b:Nat)(far:Int)(w:World)(hw:1≤g.w∧g.w≤64)(ha:a<4096)(hb:b<4096):
  aF prog 219 [.agg (aQ g A c).toArray,.int .i64 a,.int .i64 b,.int .i64 far] [] w (fun v S'=>v=.bool (yV g.w far a b)∧S'=[]):=by
 obtain⟨gw,gh,gx,gy,gs,p⟩:=g;dsimp only at hw ⊢;dsimp only[aQ];have a1:=aC6 hw.1 a;have a2:=aN4 hw.1 a;have b1:=aC6 hw.1 b;have b2:=aN4 hw.1 b;unfold yV;unfold aY aV at *;refine aJ func219 rfl ntmps219 rfl ⟨aE,.nil⟩ (fun _=>?_);simp only[aG];refine aB;all_goals exact aM rfl rfl (.nil _) ⟨rfl,rfl⟩
theorem aNd(g:bE)(far:Int)(top:Nat):∀i,-1≤(pC g far top i).1∧(pC g far top i).1<i
 | 0=>by simp[pC]
 | i+1=>by
  have:=aNd g far top i;rw[pC];split
  ·dsimp only;omega
  ·omega
theorem bAk(g:bE)(A:Option Addr)(c:Nat)(far:Int)(w:World)(hr:bP w (bB []) A g.p.length c 1 (aD .i64 g.p))(hg:cH g):
  aF prog 176 [.agg (aQ g A c).toArray,.int .i64 far] [] w (fun v S'=>v=.int .i64 (pC g far (lT g.p g.p.length).1.toNat g.p.length).1∧S'=[]):=by
 have hm4:=hg.len;obtain⟨k,hk2,hk1,-,-⟩:=zJ hg.2.2 hm4.1 hm4.2;have hP:=fun w hw=>aGi g A c w hw oo;have hA:=fun (i:Nat) (hi:i<g.p.length) w=>aW1 g A c i k far w (by have:=hg.1;unfold kC at this;omega) oo oo;rw[hk1]at hP ⊢;rw[Int.toNat_natCast];have hst:∀i,pC g far k (i+1)=if (pC g far k i).2<g.p.getD i 0∧yV g.w far i k then ((i:Int),g.p.getD i 0)else pC g far k i:=fun _=>rfl;have hs0:pC g far k 0=(-1,0):=rfl;generalize pC g far k=sc at *;obtain⟨gw,gh,gx,gy,gs,p⟩:=g;dsimp only at hr hm4 hk2 hP hA hst ⊢;dsimp only[aQ]at *;clear hg;have hr0:=hr;obtain⟨bA,oA,rfl,hRA⟩:=hr.at_ hm4.1;refine aJ func176 rfl ntmps176 rfl ⟨aE,.nil⟩ (fun _=>?_);simp only[aG];refine aB;refine bU rfl rfl rfl (fun w hw=>hP w ⟨hr0.h.go hw (aC.nil _)⟩) ?_;refine aB;rename_i b2;refine cG (X:=Nat) (fun i=>i≤p.length) (fun i=>[(1,.int .i64 far),(2,.pointer (some ⟨b2,0,none⟩)),(5,.int .i64 k),(6,.int .i64 (sc i).1),(7,.int .i64 (sc i).2),(13,.slice (some ⟨bA,oA,none⟩) p.length c),(14,.int .i64 p.length),(15,.int .i64 i)]) (fun _=>[.blk b2 126 [.int .i64 gw,.int .i64 gh,.int .i64 gx,.int .i64 gy,.int .i64 gs,.slice (some ⟨bA,oA,none⟩) p.length c]]) (fun i=>p.length-i) 0 (Nat.zero_le _) ⟨rfl,rfl,rfl,by rw[hs0];rfl,by rw[hs0];rfl,rfl,rfl,rfl,trivial⟩ aA.au ?_;intro i hi;rcases Nat.lt_or_ge i p.length with h|h
 ·have e:=hst i;have iA:CV prog 219 [.agg #[.int .i64 gw,.int .i64 gh,.int .i64 gx,.int .i64 gy,.int .i64 gs,.slice (some ⟨bA,oA,none⟩) p.length c],.int .i64 i,.int .i64 k,.int .i64 far] (.bool (yV gw far i k)) True:=⟨fun _ w=>hA i h w⟩;clear hA hst hP;generalize yV gw far i k=ap at *;generalize hsc:sc i=q at *;refine aB;all_goals
   refine aR (i+1) h (by show p.length-(i+1)<p.length-i;omega) ⟨rfl,rfl,rfl,?_,?_,rfl,rfl,by simp[aI],trivial⟩ aA.au;all_goals
    first
    | (rw[e,if_pos ⟨oa,oa⟩];rfl)
    | (rw[e,if_neg (by rintro⟨h1,h2⟩;first|omega|contradiction)];rfl)
 ·obtain rfl:i=p.length:=oo;refine aB;exact aM rfl rfl (.nil _) ⟨rfl,rfl⟩
theorem bBy(g:bE)(A:Option Addr)(c:Nat)(cf:dF)(w:World)(hr:bP w (bB []) A g.p.length c 1 (aD .i64 g.p))(hg:cH g)(hm:lZ cf):
  aF prog 123 [.agg (aQ g A c).toArray,.agg (aAu cf).toArray] [] w (fun v S'=>v=.bool (zV cf g)∧S'=[]):=by
 have hm4:=hg.len;obtain⟨k,hk2,hk1,-,-⟩:=zJ hg.2.2 hm4.1 hm4.2;have hP:=fun w hw=>aGi g A c w hw oo;have hS:=fun w hw=>bAk g A c 3 w hw hg;have hsi:=aNd g 3 (lT g.p g.p.length).1.toNat g.p.length;have hp:=hg.2.2.1;obtain⟨⟨s1,s2⟩,-⟩:=hm;unfold zV;dsimp only;rw[hk1]at hP hS hsi ⊢;rw[Int.toNat_natCast]at hS hsi ⊢;generalize (pC g 3 k g.p.length).1=b at *;obtain⟨gw,gh,gx,gy,gs,p⟩:=g;dsimp only at hr hm4 hk2 hP hS hsi hp ⊢;dsimp only[aQ]at *;clear hg;have hr0:=hr;obtain⟨bA,oA,rfl,hRA⟩:=hr.at_ hm4.1;have pk:=hp k hk2;refine aJ func123 rfl ntmps123 rfl ⟨aE,.nil⟩ (fun _=>?_);simp only[aG];refine aB;rename_i b2 b3;refine fJ [.blk b2 126 [.int .i64 gw,.int .i64 gh,.int .i64 gx,.int .i64 gy,.int .i64 gs,.slice (some ⟨bA,oA,none⟩) p.length c]] (0::1::2::3::4::5::[]) aA.au ?_;intro _;refine cE;refine bU rfl rfl rfl (fun w hw=>hP w ⟨hr0.h.go hw (aC.nil _)⟩) ?_;refine cE;refine bU rfl rfl rfl (fun w hw=>hS w ⟨hr0.h.go hw (aC.nil _)⟩) ?_;refine cE;rcases Int.lt_or_le b 0 with hb|hb
 ·rw[show decide (0≤(k:Int)∧0≤b∧p.getD k 0*cf.second<p.getD b.toNat 0*256)=false from decide_eq_false oo];refine kG (0::1::2::3::4::5::6::7::8::9::10::11::12::13::14::15::16::17::18::19::20::21::22::23::[]) ?_;intro _;refine gO;all_goals first
   | exact aM rfl rfl (.nil _) ⟨rfl,rfl⟩
   | (exfalso;omega)
 ·obtain⟨kb,rfl⟩:∃kb:Nat,b=kb:=⟨b.toNat,oo⟩;rw[Int.toNat_natCast];have pb:=hp kb oo;have mk:=cT (a:=p.getD k 0) (b:=cf.second) (A:=1073741824) (B:=256) pk oo;clear hp hP hS;refine kG (0::1::2::3::4::5::6::7::8::9::10::11::12::13::14::15::16::17::18::19::20::21::22::23::[]) ?_;intro _;refine gO;all_goals first
   | (exfalso;omega)
   | exact aM rfl rfl (.nil _) ⟨(congrArg Value.bool (by rw[Bool.eq_iff_iff];simp only[decide_eq_true_eq,Bool.and_eq_true,Bool.or_eq_true,Bool.not_eq_true,beq_iff_eq,bne_iff_ne,true_iff,iff_true,false_iff,iff_false,Bool.false_eq_true,not_false_eq_true,ne_eq];omega)),rfl⟩
theorem aRr(x:Nat)(w:World)(hx:x<9223372036854775808):aF prog 187 [.int .u64 x] [] w (fun v S'=>v=.int .u64 (if gB x*gB x<x then ((gB x:Nat):Int)+1 else ((gB x:Nat):Int))∧S'=[]):=by
 have h1:=aCo (x:=x) oo;have h2:=(aCp x).1;have hF:=fun w=>aK3 x w oo;generalize gB x=r at *;have h3:=Nat.mul_le_mul (show r≤4294967295 by omega) (show r≤4294967295 by omega);have iM:∀w0 W H t u a b,MS prog w0 W H (.binOp .mul t a b u) [.int .u64 (r:Int),.int .u64 (r:Int)] (.int .u64 ((r*r:Nat):Int)) True:=fun _ _ _ _ _ _ _=>cD inferInstance (by show (0:Int)≤_∧_≤(18446744073709551615:Int);rw[← Int.natCast_mul];omega) (by rw[Int.natCast_mul]);refine aJ func187 rfl ntmps187 rfl ⟨aE,.nil⟩ (fun _=>?_);simp only[aG];generalize r*r=rr at *;refine aB;refine bU rfl rfl rfl (fun w _=>hF w) ?_;by_cases h:rr<x
 ·rw[if_pos h];refine aB;all_goals exact aM rfl rfl (.nil _) ⟨rfl,rfl⟩
 ·rw[if_neg h];refine aB;all_goals exact aM rfl rfl (.nil _) ⟨rfl,rfl⟩
theorem bBa(g:bE)(A:Option Addr)(c:Nat)(w:World)(hr:bP w (bB []) A g.p.length c 1 (aD .i64 g.p))(hg:cH g):
  aF prog 145 [.agg (aQ g A c).toArray] [] w (fun v S'=>v=.tuple #[.int .i64 (aDm g),.bool true]∧S'=[]):=by
 obtain⟨s1,s2,s3⟩:=bBb hg;obtain⟨v1,v2⟩:=aOh hg;have hV:=fun w hw=>bC9 g A c w hw hg;have hs:=hg.1;unfold kC at hs;have hst:=cT (a:=g.st) (b:=g.st) (A:=4096) (B:=4096) oo oo;unfold aDm;dsimp only;rw[s3];have iM:=muldiv_any (nD g+nE g) (g.st*g.st) 65536 1;obtain⟨n,hn⟩:∃n:Nat,cP ((nD g+nE g)*(g.st*g.st)) 65536 1=n:=⟨_,(Int.toNat_of_nonneg s2.1).symm⟩;rw[hn]at iM s2 ⊢;rw[Int.toNat_natCast];have hC:=fun w=>aRr n w oo;have h1:=aCo (x:=n) oo;generalize hq:(if gB n*gB n<n then ((gB n:Nat):Int)+1 else ((gB n:Nat):Int))=q at *;have hqb:0≤q∧q≤4294967296:=by rw[← hq];split<;>omega
 generalize nD g=vx at *;generalize nE g=vy at *;obtain⟨gw,gh,gx,gy,gs,p⟩:=g;dsimp only at hr hs hst s1 iM hV ⊢;dsimp only[aQ]at *;generalize hss:gs*gs=ss at *;have iS:∀w0 W H t u a b,MS prog w0 W H (.binOp .mul t a b u) [.int .i64 gs,.int .i64 gs] (.int .i64 ss) True:=fun _ _ _ _ _ _ _=>cD inferInstance (by rw[hss];show (-9223372036854775808:Int)≤_∧_≤(9223372036854775807:Int);omega) (congrArg (Value.int .i64) hss);clear hg hq hn s3;refine aJ func145 rfl ntmps145 rfl ⟨aE,.nil⟩ (fun _=>?_);simp only[aG];refine aB;refine lf rfl rfl rfl (S:=[]) (fun w hw ho=>hV w ⟨hr.h.go hw (aC.nil _)⟩) ?_;rintro v S' ⟨m,rfl,rfl⟩;refine aB;refine bU rfl rfl rfl (fun w _=>hC w) ?_;refine aB;refine bK;exact⟨rfl,rfl⟩
theorem aK1(x:Int):CV prog 147 [.int .i64 x] (.bool (decide (-1073741824≤x∧x≤1073741824))) True:=⟨fun _ w=>by refine aJ func147 rfl ntmps147 rfl ⟨aE,.nil⟩ (fun n=>?_);simp only[aG];refine aB;all_goals exact aM rfl rfl (.nil _) ⟨(congrArg Value.bool (by rw[Bool.eq_iff_iff];simp only[decide_eq_true_eq,Bool.and_eq_true,Bool.or_eq_true,Bool.not_eq_true,beq_iff_eq,bne_iff_ne,true_iff,iff_true,false_iff,iff_false,Bool.false_eq_true,not_false_eq_true,ne_eq];omega)),rfl⟩⟩
theorem aFa{x:Int}(h:pO x)(w:World):aF prog 147 [.int .i64 x] [] w (fun v S'=>v=.bool true∧S'=[]):=by have:=(aK1 x).h trivial w;rw[decide_eq_true (show -1073741824≤x∧x≤1073741824 from h)]at this;exact this
theorem aF9{x:Int}(h:¬pO x)(w:World):aF prog 147 [.int .i64 x] [] w (fun v S'=>v=.bool false∧S'=[]):=by have:=(aK1 x).h trivial w;rw[decide_eq_false (show ¬(-1073741824≤x∧x≤1073741824)from h)]at this;exact this
theorem aCy{x:Int}(h:pZ x):CV prog 146 [.int .i64 x] (.bool true) True:=by have:=near_cv x;rw[decide_eq_true (show -1125899906842624≤x∧x≤1125899906842624 from h)]at this;exact this
theorem aCx{x:Int}(h:¬pZ x):CV prog 146 [.int .i64 x] (.bool false) True:=by have:=near_cv x;rw[decide_eq_false (show ¬(-1125899906842624≤x∧x≤1125899906842624)from h)]at this;exact this
theorem aSb(s:aK)(A:Option Addr)(c:Nat)(w:World)(hr:bP w (bB []) A s.g.p.length c 1 (aD .i64 s.g.p))(hg:cH s.g)(hx : -4611686018427387904≤s.g.x∧s.g.x≤4611686018427387904)(hy : -4611686018427387904≤s.g.y∧s.g.y≤4611686018427387904):
  aF prog 105 [.agg (aQ s.g A c).toArray,.agg #[.int .i64 s.x,.int .i64 s.y],.int .u16 s.seq,.int .u32 s.time] [] w
   (fun v S'=>((∃f,qQ s=some f∧v=.tuple #[.agg (dU f).toArray,.bool true])∨(qQ s=none∧v=.tuple #[.agg (dU ⟨0,0,0,0,0,0⟩).toArray,.bool false]))∧S'=[]):=by
 have hM:=fun w hw=>aLj s.g A c w hw hg hx hy;have hS:=fun w hw=>bBa s.g A c w hw hg;unfold qQ;dsimp only;generalize fP s.g=m at *;obtain⟨m1,m2⟩:=m;generalize aDm s.g=sr at *;obtain⟨cf,ln,pp,wt,sat,sums,X,Y,md,g,nx,bk,tries,void,fail,seq,time,deeds,ins,modes⟩:=s;dsimp only at hr hM hS ⊢;obtain⟨gw,gh,gx,gy,gs,p⟩:=g;dsimp only at hr hM hS ⊢;dsimp only[aQ]at *;clear hg hx hy;refine aJ func105 rfl ntmps105 rfl ⟨aE,.nil⟩ (fun _=>?_);simp only[aG];refine aB;refine bU rfl rfl rfl (fun w hw=>hM w ⟨hr.h.go hw (aC.nil _)⟩) ?_;refine aB;refine bU rfl rfl rfl (fun w hw=>hS w ⟨hr.h.go hw (aC.nil _)⟩) ?_;by_cases n1:pZ m1;case neg =>
  have i1:=aCx n1;refine aB;refine bK;exact⟨.inr ⟨if_neg (by rintro⟨h1,h2,h3,h4,-⟩;exact n1 h1),rfl⟩,rfl⟩
 have i1:=aCy n1;by_cases n2:pZ m2;case neg =>
  have i2:=aCx n2;refine aB;refine bK;exact⟨.inr ⟨if_neg (by rintro⟨h1,h2,h3,h4,-⟩;exact n2 h2),rfl⟩,rfl⟩
 have i2:=aCy n2;by_cases n3:pZ X;case neg =>
  have i3:=aCx n3;refine aB;refine bK;exact⟨.inr ⟨if_neg (by rintro⟨h1,h2,h3,h4,-⟩;exact n3 h3),rfl⟩,rfl⟩
 have i3:=aCy n3;by_cases n4:pZ Y;case neg =>
  have i4:=aCx n4;refine aB;refine bK;exact⟨.inr ⟨if_neg (by rintro⟨h1,h2,h3,h4,-⟩;exact n4 h4),rfl⟩,rfl⟩
 have i4:=aCy n4;have q1:=id n1;have q2:=id n2;have q3:=id n3;have q4:=id n4;unfold pZ at q1 q2 q3 q4;refine aB;by_cases f1:pO (m1-X);case neg =>
  refine lb rfl rfl rfl rfl (S:=[]) (fun w hw ho=>aF9 f1 w) ?_;rintro v S' ⟨rfl,rfl⟩;refine aB;refine bK;exact⟨.inr ⟨if_neg (by rintro⟨-,-,-,-,h5,-⟩;exact f1 h5),rfl⟩,rfl⟩
 refine lb rfl rfl rfl rfl (S:=[]) (fun w hw ho=>aFa f1 w) ?_;rintro v S' ⟨rfl,rfl⟩;refine aB;by_cases f2:pO (m2-Y);case neg =>
  refine lb rfl rfl rfl rfl (S:=[]) (fun w hw ho=>aF9 f2 w) ?_;rintro v S' ⟨rfl,rfl⟩;refine aB;refine bK;exact⟨.inr ⟨if_neg (by rintro⟨-,-,-,-,-,h5,-⟩;exact f2 h5),rfl⟩,rfl⟩
 refine lb rfl rfl rfl rfl (S:=[]) (fun w hw ho=>aFa f2 w) ?_;rintro v S' ⟨rfl,rfl⟩;refine aB;by_cases f3:pO sr;case neg =>
  refine lb rfl rfl rfl rfl (S:=[]) (fun w hw ho=>aF9 f3 w) ?_;rintro v S' ⟨rfl,rfl⟩;refine aB;refine bK;exact⟨.inr ⟨if_neg (by rintro⟨-,-,-,-,-,-,h5⟩;exact f3 h5),rfl⟩,rfl⟩
 refine lb rfl rfl rfl rfl (S:=[]) (fun w hw ho=>aFa f3 w) ?_;rintro v S' ⟨rfl,rfl⟩;have g1:=id f1;have g2:=id f2;have g3:=id f3;unfold pO at g1 g2 g3;refine aB;refine bK;exact⟨.inl ⟨_,if_pos ⟨n1,n2,n3,n4,f1,f2,f3⟩,rfl⟩,rfl⟩
def gU(c:dF):List Value:=aAe c
def qY(s:Ln):List Value:=tO s
instance (c:dF):fF (gU c) 23:=⟨rfl⟩
instance (s:Ln):fF (qY s) 20:=⟨rfl⟩
instance (c:dF):dG (gU c) 8 (.int .i64 c.power):=⟨rfl⟩
instance (c:dF):dG (gU c) 9 (.int .i64 c.tries):=⟨rfl⟩
instance (c:dF):dG (gU c) 13 (.int .i64 c.far):=⟨rfl⟩
instance (c:dF):dG (gU c) 14 (.int .i64 c.step):=⟨rfl⟩
instance (c:dF):dG (gU c) 16 (.int .i64 c.need):=⟨rfl⟩
instance (c:dF):dG (gU c) 17 (.int .i64 c.meas):=⟨rfl⟩
instance (c:dF):dG (gU c) 18 (.int .i64 c.away):=⟨rfl⟩
instance (c:dF):dG (gU c) 19 (.int .i64 c.num):=⟨rfl⟩
instance (c:dF):dG (gU c) 20 (.int .i64 c.den):=⟨rfl⟩
instance (c:dF):dG (gU c) 21 (.int .i64 c.times):=⟨rfl⟩
instance (c:dF):dG (gU c) 22 (.int .i64 c.spread):=⟨rfl⟩
instance (priority:=3000):nG 4 4 8:=⟨rfl⟩
instance (priority:=3000):nG 4 5 9:=⟨rfl⟩
instance (priority:=3000):nG 283 1 284:=⟨rfl⟩
instance (c:dF):lL (gU c) 4 6 (aAu c):=⟨rfl,rfl⟩
instance (c:dF):lL (gU c) 10 3 (qZ c.noi):=⟨rfl,rfl⟩
structure bQ where
 ptr:Option Addr
 Ag:Option Addr
 cg:Nat
 An:Option Addr
 cn:Nat
 Ad:Option Addr
 cd:Nat
 Ai:Option Addr
 ci:Nat
 Am:Option Addr
 cm:Nat
@[reducible] def vK(s:aK)(a:bQ):List Value:=[.bool s.sat,.int .i64 s.sums,.int .i64 s.x,.int .i64 s.y,.int .i64 s.mode,.int .i64 s.g.w,.int .i64 s.g.h,.int .i64 s.g.x,.int .i64 s.g.y,.int .i64 s.g.st,.slice a.Ag s.g.p.length a.cg,.int .i64 s.next.w,.int .i64 s.next.h,.int .i64 s.next.x,.int .i64 s.next.y,.int .i64 s.next.st,.slice a.An s.next.p.length a.cn,.int .i64 s.bk.b,.int .i64 s.bk.n,.int .i64 s.tries,.bool s.void,.bool s.fail,.int .u16 s.seq,.int .u32 s.time,.slice a.Ad s.deeds.length a.cd,.slice a.Ai s.ins.length a.ci,.slice a.Am s.modes.length a.cm]
@[reducible] def aH(s:aK)(a:bQ):List Value:=gU s.cf++(.pointer a.ptr::(qY s.ln++eE s.p (gQ s.cf s.w (vK s a))))
structure kD(s:aK):Prop where
 pl:s.p.l.length=64
 wl:s.w.l.length=32
theorem gZ{s:aK}(h:kD s):fF (aO bV s.p.l) 192:=⟨by rw[kJ,h.pl]⟩
theorem kO{s:aK}(h:kD s):fF (aD .i64 s.w.l) 32:=⟨by rw[fW,h.wl]⟩
theorem aW8(g:Nat)(s:aK)(a:bQ)(w:World)(hown:aZ [.blk g 133 (aH s a)] w)(hL:kD s):
  aF prog 30 [.pointer (some ⟨g,0,none⟩)] [.blk g 133 (aH s a)] w (fun v S'=>v=.int .i64 s.mode∧S'=[.blk g 133 (aH s a)]):=by
 have i1:=gZ hL;have i2:=kO hL;refine aJ func30 rfl ntmps30 rfl hown (fun _=>?_);simp only[aG];refine aB;exact aM rfl rfl aA.au ⟨rfl,rfl⟩
theorem aMb(g:Nat)(s:aK)(a:bQ)(w:World)(hown:aZ [.blk g 133 (aH s a)] w)(hL:kD s)(hp:1≤s.cf.power∧s.cf.power≤30):
  aF prog 115 [.pointer (some ⟨g,0,none⟩)] [.blk g 133 (aH s a)] w (fun v S'=>v=.bool (wQ s)∧S'=[.blk g 133 (aH s a)]):=by
 have i1:=gZ hL;have i2:=kO hL;unfold wQ;have i3:=holds_cv s.mode;have i4:=bover_cv s.bk s.cf.power;unfold fG;generalize hd:decide (s.mode=2∨s.mode=3)=d at *;generalize decide (1099511627776/2^s.cf.power.toNat<s.bk.b)=e at *;refine aJ func115 rfl ntmps115 rfl hown (fun _=>?_);simp only[aG];cases d
 ·refine aB;refine kG (0::1::2::3::4::5::6::7::8::9::10::11::12::13::14::15::16::17::18::[]) ?_;intro _;refine aBc;all_goals exact aM rfl rfl aA.au ⟨rfl,rfl⟩
 ·refine aB;refine kG (0::1::2::3::4::5::6::7::8::9::10::11::12::13::14::15::16::17::18::[]) ?_;intro _;refine aBc;all_goals exact aM rfl rfl aA.au ⟨rfl,rfl⟩
def flN(a b c d e:Bool):Int:=(if a then 1 else 0)+(if b then 2 else 0)+(if c then 4 else 0)+(if d then 8 else 0)+if e then 16 else 0
def flT(a b c d e:Bool):Nat→Int
 | 0=>0
 | 1=>if a then 1 else 0
 | 2=>(if a then 1 else 0)+(if b then 2 else 0)
 | 3=>(if a then 1 else 0)+(if b then 2 else 0)+(if c then 4 else 0)
 | 4=>(if a then 1 else 0)+(if b then 2 else 0)+(if c then 4 else 0)+(if d then 8 else 0)
 | _=>flN a b c d e
theorem aTg(a b c d e:Bool):CV prog 122 [.bool a,.bool b,.bool c,.bool d,.bool e] (.int .i32 (flN a b c d e)) True:=⟨fun _ w=>by
 refine aJ func122 rfl ntmps122 rfl ⟨aE,.nil⟩ (fun _=>?_);simp only[aG];refine aB;refine cG (X:=Nat) (fun i=>i≤5) (fun i=>[(11,.int .i32 (flT a b c d e i)),(19,.agg #[.bool a,.bool b,.bool c,.bool d,.bool e]),(20,.int .i64 i)]) (fun _=>[]) (fun i=>5-i) 0 (Nat.zero_le _) ⟨rfl,rfl,rfl,trivial⟩ (.nil _) ?_;intro i hi;rcases Nat.lt_or_ge i 5 with h|h
 ·have h5:i=0∨i=1∨i=2∨i=3∨i=4:=oo;rcases h5 with rfl|rfl|rfl|rfl|rfl
  ·cases a
   ·refine aB;exact aR 1 od od ⟨by kernel_rfl,rfl,rfl,trivial⟩ (.nil _)
   ·refine aB;exact aR 1 od od ⟨by kernel_rfl,rfl,rfl,trivial⟩ (.nil _)
  ·cases b
   ·refine aB;refine aR 2 od od ⟨?_,rfl,rfl,trivial⟩ (.nil _);cases a<;>kernel_rfl
   ·refine aB;refine aR 2 od od ⟨?_,rfl,rfl,trivial⟩ (.nil _);cases a<;>kernel_rfl
  ·cases c
   ·refine aB;refine aR 3 od od ⟨?_,rfl,rfl,trivial⟩ (.nil _);cases a<;>cases b<;>kernel_rfl
   ·refine aB;refine aR 3 od od ⟨?_,rfl,rfl,trivial⟩ (.nil _);cases a<;>cases b<;>kernel_rfl
  ·cases d
   ·refine aB;refine aR 4 od od ⟨?_,rfl,rfl,trivial⟩ (.nil _);cases a<;>cases b<;>cases c<;>kernel_rfl
   ·refine aB;refine aR 4 od od ⟨?_,rfl,rfl,trivial⟩ (.nil _);cases a<;>cases b<;>cases c<;>kernel_rfl
  ·cases e
   ·refine aB;refine aR 5 od od ⟨?_,rfl,rfl,trivial⟩ (.nil _);cases a<;>cases b<;>cases c<;>cases d<;>kernel_rfl
   ·refine aB;refine aR 5 od od ⟨?_,rfl,rfl,trivial⟩ (.nil _);cases a<;>cases b<;>cases c<;>cases d<;>kernel_rfl
 ·obtain rfl:i=5:=oo;refine aB;exact aM rfl rfl (.nil _) ⟨rfl,rfl⟩⟩
