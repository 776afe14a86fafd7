import Derived.Test.YthajpemlpmlefaaGreatP37
import Derived.Test.YthajpemlpmlefaaGreatP39
import Derived.Test.YthajpemlpmlefaaGreatP40
import Derived.Test.YthajpemlpmlefaaGreatP41
set_option maxHeartbeats 512000000
set_option maxRecDepth 4000
set_option linter.unusedVariables false
set_option linter.unusedSimpArgs false
namespace Go.Proofs.YthajpemlpmlefaaGreat
open Go.RowKit
@[reducible] def zW0:List Value:=.int .i64 0::.int .i64 0::.int .i64 0::.int .i64 0::.int .i64 0::.int .i64 0::(ints .i64 (List.replicate 32 0)++[.int .i64 0,.int .i64 0])
def zWt:Value:=.agg zW0.toArray
instance (priority:=3000):Inf Tryz.prog 105 40 320 zWt:=⟨Tryz.t105,by kernel_rfl,by kernel_rfl,rfl,rfl⟩
instance:ZC zWt zW0:=⟨rfl⟩
instance:LenE (ints .i64 (List.replicate 32 0)) 32:=⟨by rw[ints_len,List.length_replicate]⟩
attribute [local irreducible] OJ J HdJ Code.wpIn wpListIn Oper.wpIn bodyPost CallsIn Does
theorem wnew_any(c:Cnf)(w:World)(hok:MarksOk c):Does Tryz.prog 45 [.agg (mrkE c).toArray] [] w (fun v S'=>v=.tuple #[.agg (watT c wNew []).toArray,.int .i64 0]∧S'=[]):=by
 have iC:=wcheck_cv c
 rw[if_pos hok]at iC
 refine does_of Tryz.func45 rfl Tryz.ntmps45 rfl ⟨by simp,.nil⟩ (fun _=>?_)
 simp only[slots]
 refine z_tas
 refine z_ro
 exact⟨rfl,rfl⟩
theorem mapart_any(g:Grd)(A:Option Addr)(c a b:Nat)(far:Int)(w:World)(hw:1≤g.w∧g.w≤64)(ha:a<4096)(hb:b<4096):
  Does Tryz.prog 149 [.agg (grE g A c).toArray,.int .i64 a,.int .i64 b,.int .i64 far] [] w (fun v S'=>v=.bool (apartN g.w far a b)∧S'=[]):=by
 obtain⟨gw,gh,gx,gy,gs,p⟩:=g
 dsimp only at hw ⊢
 dsimp only[grE]
 have a1:=colI_in hw.1 a
 have a2:=rowI_in hw.1 a
 have b1:=colI_in hw.1 b
 have b2:=rowI_in hw.1 b
 unfold apartN
 unfold colI rowI at *
 refine does_of Tryz.func149 rfl Tryz.ntmps149 rfl ⟨by simp,.nil⟩ (fun _=>?_)
 simp only[slots]
 refine z_tas
 all_goals exact j_out1 rfl rfl (.nil _) ⟨rfl,rfl⟩
theorem sec_in(g:Grd)(far:Int)(top:Nat):∀i,-1≤(secTo14 g far top i).1∧(secTo14 g far top i).1<i
 | 0=>by simp[secTo14]
 | i+1=>by
  have:=sec_in g far top i
  rw[secTo14]
  split
  ·dsimp only;omega
  ·omega
theorem second_any(g:Grd)(A:Option Addr)(c:Nat)(far:Int)(w:World)(hr:RoA w (blocks []) A g.p.length c 1 (ints .i64 g.p))(hg:GrdOk g):
  Does Tryz.prog 86 [.agg (grE g A c).toArray,.int .i64 far] [] w (fun v S'=>v=.int .i64 (secTo14 g far (pkTo g.p g.p.length).1.toNat g.p.length).1∧S'=[]):=by
 have hm4:=hg.len
 obtain⟨k,hk2,hk1,-,-⟩:=pk_top hg.2.2 hm4.1 hm4.2
 have hP:=fun w hw=>peak_any g A c w hw (by omega)
 have hA:=fun (i:Nat) (hi:i<g.p.length) w=>mapart_any g A c i k far w (by have:=hg.1;unfold sidesOk at this;omega) (by omega) (by omega)
 rw[hk1]at hP ⊢
 rw[Int.toNat_natCast]
 have hst:∀i,secTo14 g far k (i+1)=if (secTo14 g far k i).2<g.p.getD i 0∧apartN g.w far i k then ((i:Int),g.p.getD i 0)else secTo14 g far k i:=fun _=>rfl
 have hs0:secTo14 g far k 0=(-1,0):=rfl
 generalize secTo14 g far k=sc at *
 obtain⟨gw,gh,gx,gy,gs,p⟩:=g
 dsimp only at hr hm4 hk2 hP hA hst ⊢
 dsimp only[grE]at *
 clear hg
 have hr0:=hr
 obtain⟨bA,oA,rfl,hRA⟩:=hr.at_ hm4.1
 refine does_of Tryz.func86 rfl Tryz.ntmps86 rfl ⟨by simp,.nil⟩ (fun _=>?_)
 simp only[slots]
 refine z_tas
 refine lfv rfl rfl rfl (fun w hw=>hP w ⟨hr0.h.go hw (Split.nil _)⟩) ?_
 refine z_tas
 rename_i b2
 refine c_loop (X:=Nat) (fun i=>i≤p.length) (fun i=>[(1,.int .i64 far),(2,.pointer (some ⟨b2,0,none⟩)),(5,.int .i64 k),(6,.int .i64 (sc i).1),(7,.int .i64 (sc i).2),(13,.slice (some ⟨bA,oA,none⟩) p.length c),(14,.int .i64 p.length),(15,.int .i64 i)]) (fun _=>[.blk b2 63 [.int .i64 gw,.int .i64 gh,.int .i64 gx,.int .i64 gy,.int .i64 gs,.slice (some ⟨bA,oA,none⟩) p.length c]]) (fun i=>p.length-i) 0 (Nat.zero_le _) ⟨rfl,rfl,rfl,by rw[hs0];rfl,by rw[hs0];rfl,rfl,rfl,rfl,trivial⟩ Sub.au ?_
 intro i hi
 rcases Nat.lt_or_ge i p.length with h|h
 ·have e:=hst i
  have iA:CV Tryz.prog 149 [.agg #[.int .i64 gw,.int .i64 gh,.int .i64 gx,.int .i64 gy,.int .i64 gs,.slice (some ⟨bA,oA,none⟩) p.length c],.int .i64 i,.int .i64 k,.int .i64 far] (.bool (apartN gw far i k)) True:=⟨fun _ w=>hA i h w⟩
  clear hA hst hP
  generalize apartN gw far i k=ap at *
  generalize hsc:sc i=q at *
  refine z_tas
  all_goals
   refine c_round (i+1) h (by show p.length-(i+1)<p.length-i;omega) ⟨rfl,rfl,rfl,?_,?_,rfl,rfl,by simp[look],trivial⟩ Sub.au
   all_goals
    first
    | (rw[e,if_pos ⟨by assumption,by assumption⟩];rfl)
    | (rw[e,if_neg (by rintro⟨h1,h2⟩;first|omega|contradiction)];rfl)
 ·obtain rfl:i=p.length:=by omega
  refine z_tas
  exact j_out1 rfl rfl (.nil _) ⟨rfl,rfl⟩
theorem torn_any(g:Grd)(A:Option Addr)(c:Nat)(cf:Cnf)(w:World)(hr:RoA w (blocks []) A g.p.length c 1 (ints .i64 g.p))(hg:GrdOk g)(hm:MarksOk cf):
  Does Tryz.prog 40 [.agg (grE g A c).toArray,.agg (mrkE cf).toArray] [] w (fun v S'=>v=.bool (tornN cf g)∧S'=[]):=by
 have hm4:=hg.len
 obtain⟨k,hk2,hk1,-,-⟩:=pk_top hg.2.2 hm4.1 hm4.2
 have hP:=fun w hw=>peak_any g A c w hw (by omega)
 have hS:=fun w hw=>second_any g A c 3 w hw hg
 have hsi:=sec_in g 3 (pkTo g.p g.p.length).1.toNat g.p.length
 have hp:=hg.2.2.1
 obtain⟨⟨s1,s2⟩,-⟩:=hm
 unfold tornN
 dsimp only
 rw[hk1]at hP hS hsi ⊢
 rw[Int.toNat_natCast]at hS hsi ⊢
 generalize (secTo14 g 3 k g.p.length).1=b at *
 obtain⟨gw,gh,gx,gy,gs,p⟩:=g
 dsimp only at hr hm4 hk2 hP hS hsi hp ⊢
 dsimp only[grE]at *
 clear hg
 have hr0:=hr
 obtain⟨bA,oA,rfl,hRA⟩:=hr.at_ hm4.1
 have pk:=hp k hk2
 refine does_of Tryz.func40 rfl Tryz.ntmps40 rfl ⟨by simp,.nil⟩ (fun _=>?_)
 simp only[slots]
 refine z_tas
 rename_i b2 b3
 refine c_dvL [.blk b2 63 [.int .i64 gw,.int .i64 gh,.int .i64 gx,.int .i64 gy,.int .i64 gs,.slice (some ⟨bA,oA,none⟩) p.length c]] (0::1::2::3::4::5::[]) Sub.au ?_
 intro _
 refine z_gvx
 refine lfv rfl rfl rfl (fun w hw=>hP w ⟨hr0.h.go hw (Split.nil _)⟩) ?_
 refine z_gvx
 refine lfv rfl rfl rfl (fun w hw=>hS w ⟨hr0.h.go hw (Split.nil _)⟩) ?_
 refine z_gvx
 rcases Int.lt_or_le b 0 with hb|hb
 ·rw[show decide (0≤(k:Int)∧0≤b∧p.getD k 0*cf.second<p.getD b.toNat 0*256)=false from decide_eq_false (by omega)]
  refine c_dv (0::1::2::3::4::5::6::7::8::9::10::11::12::13::14::15::16::17::18::19::20::21::22::23::[]) ?_;intro _
  refine z_govG
  all_goals first
   | exact j_out1 rfl rfl (.nil _) ⟨rfl,rfl⟩
   | (exfalso;omega)
 ·obtain⟨kb,rfl⟩:∃kb:Nat,b=kb:=⟨b.toNat,by omega⟩
  rw[Int.toNat_natCast]
  have pb:=hp kb (by omega)
  have mk:=mul_in (a:=p.getD k 0) (b:=cf.second) (A:=1073741824) (B:=256) pk (by omega)
  clear hp hP hS
  refine c_dv (0::1::2::3::4::5::6::7::8::9::10::11::12::13::14::15::16::17::18::19::20::21::22::23::[]) ?_;intro _
  refine z_govG
  all_goals first
   | (exfalso;omega)
   | exact j_out1 rfl rfl (.nil _) ⟨(congrArg Value.bool (by rw[Bool.eq_iff_iff];simp only[decide_eq_true_eq,Bool.and_eq_true,Bool.or_eq_true,Bool.not_eq_true,beq_iff_eq,bne_iff_ne,true_iff,iff_true,false_iff,iff_false,Bool.false_eq_true,not_false_eq_true,ne_eq];omega)),rfl⟩
theorem ceil_any(x:Nat)(w:World)(hx:x<9223372036854775808):Does Tryz.prog 175 [.int .u64 x] [] w (fun v S'=>v=.int .u64 (if isq x*isq x<x then ((isq x:Nat):Int)+1 else ((isq x:Nat):Int))∧S'=[]):=by
 have h1:=isq_lt (x:=x) (by omega)
 have h2:=(isq_spec x).1
 have hF:=fun w=>floor_any x w (by omega)
 generalize isq x=r at *
 have h3:=Nat.mul_le_mul (show r≤4294967295 by omega) (show r≤4294967295 by omega)
 have iM:∀w0 W H t u a b,MS Tryz.prog w0 W H (.binOp .mul t a b u) [.int .u64 (r:Int),.int .u64 (r:Int)] (.int .u64 ((r*r:Nat):Int)) True:=fun _ _ _ _ _ _ _=>msM inferInstance (by show (0:Int)≤_∧_≤(18446744073709551615:Int);rw[← Int.natCast_mul];omega) (by rw[Int.natCast_mul])
 refine does_of Tryz.func175 rfl Tryz.ntmps175 rfl ⟨by simp,.nil⟩ (fun _=>?_)
 simp only[slots]
 generalize r*r=rr at *
 refine z_tas
 refine lfv rfl rfl rfl (fun w _=>hF w) ?_
 by_cases h:rr<x
 ·rw[if_pos h]
  refine z_tas
  all_goals exact j_out1 rfl rfl (.nil _) ⟨rfl,rfl⟩
 ·rw[if_neg h]
  refine z_tas
  all_goals exact j_out1 rfl rfl (.nil _) ⟨rfl,rfl⟩
theorem sure_any(g:Grd)(A:Option Addr)(c:Nat)(w:World)(hr:RoA w (blocks []) A g.p.length c 1 (ints .i64 g.p))(hg:GrdOk g):
  Does Tryz.prog 123 [.agg (grE g A c).toArray] [] w (fun v S'=>v=.tuple #[.int .i64 (sureB g),.bool true]∧S'=[]):=by
 obtain⟨s1,s2,s3⟩:=sure_in hg
 obtain⟨v1,v2⟩:=vary_in hg
 have hV:=fun w hw=>varyg_any g A c w hw hg
 have hs:=hg.1
 unfold sidesOk at hs
 have hst:=mul_in (a:=g.st) (b:=g.st) (A:=4096) (B:=4096) (by omega) (by omega)
 unfold sureB
 dsimp only
 rw[s3]
 have iM:=muldiv_any (varX g+varY g) (g.st*g.st) 65536 1
 obtain⟨n,hn⟩:∃n:Nat,divV ((varX g+varY g)*(g.st*g.st)) 65536 1=n:=⟨_,(Int.toNat_of_nonneg s2.1).symm⟩
 rw[hn]at iM s2 ⊢
 rw[Int.toNat_natCast]
 have hC:=fun w=>ceil_any n w (by omega)
 have h1:=isq_lt (x:=n) (by omega)
 generalize hq:(if isq n*isq n<n then ((isq n:Nat):Int)+1 else ((isq n:Nat):Int))=q at *
 have hqb:0≤q∧q≤4294967296:=by rw[← hq];split<;>omega
 generalize varX g=vx at *
 generalize varY g=vy at *
 obtain⟨gw,gh,gx,gy,gs,p⟩:=g
 dsimp only at hr hs hst s1 iM hV ⊢
 dsimp only[grE]at *
 generalize hss:gs*gs=ss at *
 have iS:∀w0 W H t u a b,MS Tryz.prog w0 W H (.binOp .mul t a b u) [.int .i64 gs,.int .i64 gs] (.int .i64 ss) True:=fun _ _ _ _ _ _ _=>msM inferInstance (by rw[hss];show (-9223372036854775808:Int)≤_∧_≤(9223372036854775807:Int);omega) (congrArg (Value.int .i64) hss)
 clear hg hq hn s3
 refine does_of Tryz.func123 rfl Tryz.ntmps123 rfl ⟨by simp,.nil⟩ (fun _=>?_)
 simp only[slots]
 refine z_tas
 refine lf rfl rfl rfl (S:=[]) (fun w hw ho=>hV w ⟨hr.h.go hw (Split.nil _)⟩) ?_
 rintro v S' ⟨m,rfl,rfl⟩
 refine z_tas
 refine lfv rfl rfl rfl (fun w _=>hC w) ?_
 refine z_tas
 refine z_ro
 exact⟨rfl,rfl⟩
theorem fits0_cv(x:Int):CV Tryz.prog 125 [.int .i64 x] (.bool (decide (-1073741824≤x∧x≤1073741824))) True:=⟨fun _ w=>by
 refine does_of Tryz.func125 rfl Tryz.ntmps125 rfl ⟨by simp,.nil⟩ (fun n=>?_)
 simp only[slots]
 refine z_tas
 all_goals exact j_out1 rfl rfl (.nil _) ⟨(congrArg Value.bool (by rw[Bool.eq_iff_iff];simp only[decide_eq_true_eq,Bool.and_eq_true,Bool.or_eq_true,Bool.not_eq_true,beq_iff_eq,bne_iff_ne,true_iff,iff_true,false_iff,iff_false,Bool.false_eq_true,not_false_eq_true,ne_eq];omega)),rfl⟩⟩
theorem fits_t{x:Int}(h:fits30 x)(w:World):Does Tryz.prog 125 [.int .i64 x] [] w (fun v S'=>v=.bool true∧S'=[]):=by
 have:=(fits0_cv x).h trivial w
 rw[decide_eq_true (show -1073741824≤x∧x≤1073741824 from h)]at this
 exact this
theorem fits_f{x:Int}(h:¬fits30 x)(w:World):Does Tryz.prog 125 [.int .i64 x] [] w (fun v S'=>v=.bool false∧S'=[]):=by
 have:=(fits0_cv x).h trivial w
 rw[decide_eq_false (show ¬(-1073741824≤x∧x≤1073741824)from h)]at this
 exact this
theorem near_t{x:Int}(h:near50 x):CV Tryz.prog 124 [.int .i64 x] (.bool true) True:=by
 have:=near_cv x
 rw[decide_eq_true (show -1125899906842624≤x∧x≤1125899906842624 from h)]at this
 exact this
theorem near_f{x:Int}(h:¬near50 x):CV Tryz.prog 124 [.int .i64 x] (.bool false) True:=by
 have:=near_cv x
 rw[decide_eq_false (show ¬(-1125899906842624≤x∧x≤1125899906842624)from h)]at this
 exact this
theorem correct_any(s:NavS)(A:Option Addr)(c:Nat)(w:World)(hr:RoA w (blocks []) A s.g.p.length c 1 (ints .i64 s.g.p))(hg:GrdOk s.g)(hx : -4611686018427387904≤s.g.x∧s.g.x≤4611686018427387904)(hy : -4611686018427387904≤s.g.y∧s.g.y≤4611686018427387904):
  Does Tryz.prog 71 [.agg (grE s.g A c).toArray,.agg #[.int .i64 s.x,.int .i64 s.y],.int .u16 s.seq,.int .u32 s.time] [] w
   (fun v S'=>((∃f,correctN s=some f∧v=.tuple #[.agg (frmE f).toArray,.bool true])∨(correctN s=none∧v=.tuple #[.agg (frmE ⟨0,0,0,0,0,0⟩).toArray,.bool false]))∧S'=[]):=by
 have hM:=fun w hw=>meang_any s.g A c w hw hg hx hy
 have hS:=fun w hw=>sure_any s.g A c w hw hg
 unfold correctN
 dsimp only
 generalize meanN s.g=m at *
 obtain⟨m1,m2⟩:=m
 generalize sureB s.g=sr at *
 obtain⟨cf,ln,pp,wt,sat,sums,X,Y,md,g,nx,bk,tries,void,fail,seq,time,deeds,ins,modes⟩:=s
 dsimp only at hr hM hS ⊢
 obtain⟨gw,gh,gx,gy,gs,p⟩:=g
 dsimp only at hr hM hS ⊢
 dsimp only[grE]at *
 clear hg hx hy
 refine does_of Tryz.func71 rfl Tryz.ntmps71 rfl ⟨by simp,.nil⟩ (fun _=>?_)
 simp only[slots]
 refine z_tas
 refine lfv rfl rfl rfl (fun w hw=>hM w ⟨hr.h.go hw (Split.nil _)⟩) ?_
 refine z_tas
 refine lfv rfl rfl rfl (fun w hw=>hS w ⟨hr.h.go hw (Split.nil _)⟩) ?_
 by_cases n1:near50 m1
 case neg =>
  have i1:=near_f n1
  refine z_tas
  refine z_ro
  exact⟨.inr ⟨if_neg (by rintro⟨h1,h2,h3,h4,-⟩;exact n1 h1),rfl⟩,rfl⟩
 have i1:=near_t n1
 by_cases n2:near50 m2
 case neg =>
  have i2:=near_f n2
  refine z_tas
  refine z_ro
  exact⟨.inr ⟨if_neg (by rintro⟨h1,h2,h3,h4,-⟩;exact n2 h2),rfl⟩,rfl⟩
 have i2:=near_t n2
 by_cases n3:near50 X
 case neg =>
  have i3:=near_f n3
  refine z_tas
  refine z_ro
  exact⟨.inr ⟨if_neg (by rintro⟨h1,h2,h3,h4,-⟩;exact n3 h3),rfl⟩,rfl⟩
 have i3:=near_t n3
 by_cases n4:near50 Y
 case neg =>
  have i4:=near_f n4
  refine z_tas
  refine z_ro
  exact⟨.inr ⟨if_neg (by rintro⟨h1,h2,h3,h4,-⟩;exact n4 h4),rfl⟩,rfl⟩
 have i4:=near_t n4
 have q1:=id n1
 have q2:=id n2
 have q3:=id n3
 have q4:=id n4
 unfold near50 at q1 q2 q3 q4
 refine z_tas
 by_cases f1:fits30 (m1-X)
 case neg =>
  refine lb rfl rfl rfl rfl (S:=[]) (fun w hw ho=>fits_f f1 w) ?_
  rintro v S' ⟨rfl,rfl⟩
  refine z_tas
  refine z_ro
  exact⟨.inr ⟨if_neg (by rintro⟨-,-,-,-,h5,-⟩;exact f1 h5),rfl⟩,rfl⟩
 refine lb rfl rfl rfl rfl (S:=[]) (fun w hw ho=>fits_t f1 w) ?_
 rintro v S' ⟨rfl,rfl⟩
 refine z_tas
 by_cases f2:fits30 (m2-Y)
 case neg =>
  refine lb rfl rfl rfl rfl (S:=[]) (fun w hw ho=>fits_f f2 w) ?_
  rintro v S' ⟨rfl,rfl⟩
  refine z_tas
  refine z_ro
  exact⟨.inr ⟨if_neg (by rintro⟨-,-,-,-,-,h5,-⟩;exact f2 h5),rfl⟩,rfl⟩
 refine lb rfl rfl rfl rfl (S:=[]) (fun w hw ho=>fits_t f2 w) ?_
 rintro v S' ⟨rfl,rfl⟩
 refine z_tas
 by_cases f3:fits30 sr
 case neg =>
  refine lb rfl rfl rfl rfl (S:=[]) (fun w hw ho=>fits_f f3 w) ?_
  rintro v S' ⟨rfl,rfl⟩
  refine z_tas
  refine z_ro
  exact⟨.inr ⟨if_neg (by rintro⟨-,-,-,-,-,-,h5⟩;exact f3 h5),rfl⟩,rfl⟩
 refine lb rfl rfl rfl rfl (S:=[]) (fun w hw ho=>fits_t f3 w) ?_
 rintro v S' ⟨rfl,rfl⟩
 have g1:=id f1
 have g2:=id f2
 have g3:=id f3
 unfold fits30 at g1 g2 g3
 refine z_tas
 refine z_ro
 exact⟨.inl ⟨_,if_pos ⟨n1,n2,n3,n4,f1,f2,f3⟩,rfl⟩,rfl⟩
def cnK(c:Cnf):List Value:=cnfE c
def lnK(s:Ln):List Value:=lnE s
instance (c:Cnf):LenE (cnK c) 23:=⟨rfl⟩
instance (s:Ln):LenE (lnK s) 20:=⟨rfl⟩
instance (c:Cnf):Get (cnK c) 8 (.int .i64 c.power):=⟨rfl⟩
instance (c:Cnf):Get (cnK c) 9 (.int .i64 c.tries):=⟨rfl⟩
instance (c:Cnf):Get (cnK c) 13 (.int .i64 c.far):=⟨rfl⟩
instance (c:Cnf):Get (cnK c) 14 (.int .i64 c.step):=⟨rfl⟩
instance (c:Cnf):Get (cnK c) 16 (.int .i64 c.need):=⟨rfl⟩
instance (c:Cnf):Get (cnK c) 17 (.int .i64 c.meas):=⟨rfl⟩
instance (c:Cnf):Get (cnK c) 18 (.int .i64 c.away):=⟨rfl⟩
instance (c:Cnf):Get (cnK c) 19 (.int .i64 c.num):=⟨rfl⟩
instance (c:Cnf):Get (cnK c) 20 (.int .i64 c.den):=⟨rfl⟩
instance (c:Cnf):Get (cnK c) 21 (.int .i64 c.times):=⟨rfl⟩
instance (c:Cnf):Get (cnK c) 22 (.int .i64 c.spread):=⟨rfl⟩
instance (priority:=3000):NAdd 4 4 8:=⟨rfl⟩
instance (priority:=3000):NAdd 4 5 9:=⟨rfl⟩
instance (priority:=3000):NAdd 283 1 284:=⟨rfl⟩
instance (c:Cnf):Cut (cnK c) 4 6 (mrkE c):=⟨rfl,rfl⟩
instance (c:Cnf):Cut (cnK c) 10 3 (noiE c.noi):=⟨rfl,rfl⟩
structure NvA where
 ptr:Option Addr
 Ag:Option Addr
 cg:Nat
 An:Option Addr
 cn:Nat
 Ad:Option Addr
 cd:Nat
 Ai:Option Addr
 ci:Nat
 Am:Option Addr
 cm:Nat
@[reducible] def tlE(s:NavS)(a:NvA):List Value:=[.bool s.sat,.int .i64 s.sums,.int .i64 s.x,.int .i64 s.y,.int .i64 s.mode,.int .i64 s.g.w,.int .i64 s.g.h,.int .i64 s.g.x,.int .i64 s.g.y,.int .i64 s.g.st,.slice a.Ag s.g.p.length a.cg,.int .i64 s.next.w,.int .i64 s.next.h,.int .i64 s.next.x,.int .i64 s.next.y,.int .i64 s.next.st,.slice a.An s.next.p.length a.cn,.int .i64 s.bk.b,.int .i64 s.bk.n,.int .i64 s.tries,.bool s.void,.bool s.fail,.int .u16 s.seq,.int .u32 s.time,.slice a.Ad s.deeds.length a.cd,.slice a.Ai s.ins.length a.ci,.slice a.Am s.modes.length a.cm]
@[reducible] def navE(s:NavS)(a:NvA):List Value:=cnK s.cf++(.pointer a.ptr::(lnK s.ln++prT s.p (watT s.cf s.w (tlE s a))))
structure NvL(s:NavS):Prop where
 pl:s.p.l.length=64
 wl:s.w.l.length=32
theorem nv_p{s:NavS}(h:NvL s):LenE (flat smpE s.p.l) 192:=⟨by rw[flat_len,h.pl]⟩
theorem nv_w{s:NavS}(h:NvL s):LenE (ints .i64 s.w.l) 32:=⟨by rw[ints_len,h.wl]⟩
theorem mode_any(g:Nat)(s:NavS)(a:NvA)(w:World)(hown:Own [.blk g 109 (navE s a)] w)(hL:NvL s):
  Does Tryz.prog 11 [.pointer (some ⟨g,0,none⟩)] [.blk g 109 (navE s a)] w (fun v S'=>v=.int .i64 s.mode∧S'=[.blk g 109 (navE s a)]):=by
 have i1:=nv_p hL
 have i2:=nv_w hL
 refine does_of Tryz.func11 rfl Tryz.ntmps11 rfl hown (fun _=>?_)
 simp only[slots]
 refine z_tas
 exact j_out1 rfl rfl Sub.au ⟨rfl,rfl⟩
theorem over_anyN(g:Nat)(s:NavS)(a:NvA)(w:World)(hown:Own [.blk g 109 (navE s a)] w)(hL:NvL s)(hp:1≤s.cf.power∧s.cf.power≤30):
  Does Tryz.prog 79 [.pointer (some ⟨g,0,none⟩)] [.blk g 109 (navE s a)] w (fun v S'=>v=.bool (overN s)∧S'=[.blk g 109 (navE s a)]):=by
 have i1:=nv_p hL
 have i2:=nv_w hL
 unfold overN
 have i3:=holds_cv s.mode
 have i4:=bover_cv s.bk s.cf.power
 unfold holdsN
 generalize hd:decide (s.mode=2∨s.mode=3)=d at *
 generalize decide (1099511627776/2^s.cf.power.toNat<s.bk.b)=e at *
 refine does_of Tryz.func79 rfl Tryz.ntmps79 rfl hown (fun _=>?_)
 simp only[slots]
 cases d
 ·refine z_tas
  refine c_dv (0::1::2::3::4::5::6::7::8::9::10::11::12::13::14::15::16::17::18::[]) ?_;intro _
  refine z_gvy
  all_goals exact j_out1 rfl rfl Sub.au ⟨rfl,rfl⟩
 ·refine z_tas
  refine c_dv (0::1::2::3::4::5::6::7::8::9::10::11::12::13::14::15::16::17::18::[]) ?_;intro _
  refine z_gvy
  all_goals exact j_out1 rfl rfl Sub.au ⟨rfl,rfl⟩
def flN(a b c d e:Bool):Int:=(if a then 1 else 0)+(if b then 2 else 0)+(if c then 4 else 0)+(if d then 8 else 0)+if e then 16 else 0
def flT(a b c d e:Bool):Nat→Int
 | 0=>0
 | 1=>if a then 1 else 0
 | 2=>(if a then 1 else 0)+(if b then 2 else 0)
 | 3=>(if a then 1 else 0)+(if b then 2 else 0)+(if c then 4 else 0)
 | 4=>(if a then 1 else 0)+(if b then 2 else 0)+(if c then 4 else 0)+(if d then 8 else 0)
 | _=>flN a b c d e
theorem flags5_cv(a b c d e:Bool):CV Tryz.prog 39 [.bool a,.bool b,.bool c,.bool d,.bool e] (.int .i32 (flN a b c d e)) True:=⟨fun _ w=>by
 refine does_of Tryz.func39 rfl Tryz.ntmps39 rfl ⟨by simp,.nil⟩ (fun _=>?_)
 simp only[slots]
 refine z_tas
 refine c_loop (X:=Nat) (fun i=>i≤5) (fun i=>[(11,.int .i32 (flT a b c d e i)),(19,.agg #[.bool a,.bool b,.bool c,.bool d,.bool e]),(20,.int .i64 i)]) (fun _=>[]) (fun i=>5-i) 0 (Nat.zero_le _) ⟨rfl,rfl,rfl,trivial⟩ (.nil _) ?_
 intro i hi
 rcases Nat.lt_or_ge i 5 with h|h
 ·have h5:i=0∨i=1∨i=2∨i=3∨i=4:=by omega
  rcases h5 with rfl|rfl|rfl|rfl|rfl
  ·cases a
   ·refine z_tas
    exact c_round 1 (by decide) (by decide) ⟨by kernel_rfl,rfl,rfl,trivial⟩ (.nil _)
   ·refine z_tas
    exact c_round 1 (by decide) (by decide) ⟨by kernel_rfl,rfl,rfl,trivial⟩ (.nil _)
  ·cases b
   ·refine z_tas
    refine c_round 2 (by decide) (by decide) ⟨?_,rfl,rfl,trivial⟩ (.nil _)
    cases a<;>kernel_rfl
   ·refine z_tas
    refine c_round 2 (by decide) (by decide) ⟨?_,rfl,rfl,trivial⟩ (.nil _)
    cases a<;>kernel_rfl
  ·cases c
   ·refine z_tas
    refine c_round 3 (by decide) (by decide) ⟨?_,rfl,rfl,trivial⟩ (.nil _)
    cases a<;>cases b<;>kernel_rfl
   ·refine z_tas
    refine c_round 3 (by decide) (by decide) ⟨?_,rfl,rfl,trivial⟩ (.nil _)
    cases a<;>cases b<;>kernel_rfl
  ·cases d
   ·refine z_tas
    refine c_round 4 (by decide) (by decide) ⟨?_,rfl,rfl,trivial⟩ (.nil _)
    cases a<;>cases b<;>cases c<;>kernel_rfl
   ·refine z_tas
    refine c_round 4 (by decide) (by decide) ⟨?_,rfl,rfl,trivial⟩ (.nil _)
    cases a<;>cases b<;>cases c<;>kernel_rfl
  ·cases e
   ·refine z_tas
    refine c_round 5 (by decide) (by decide) ⟨?_,rfl,rfl,trivial⟩ (.nil _)
    cases a<;>cases b<;>cases c<;>cases d<;>kernel_rfl
   ·refine z_tas
    refine c_round 5 (by decide) (by decide) ⟨?_,rfl,rfl,trivial⟩ (.nil _)
    cases a<;>cases b<;>cases c<;>cases d<;>kernel_rfl
 ·obtain rfl:i=5:=by omega
  refine z_tas
  exact j_out1 rfl rfl (.nil _) ⟨rfl,rfl⟩⟩
end Go.Proofs.YthajpemlpmlefaaGreat
