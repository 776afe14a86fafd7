import Derived.Test.YthajpemlpmlefaaGreatP36
set_option maxHeartbeats 512000000
set_option maxRecDepth 4000
set_option linter.unusedVariables false
set_option linter.unusedSimpArgs false
namespace Go.Proofs.YthajpemlpmlefaaGreat
open Go.RowKit
section
variable {P:Program} {w0:World} {W:Nat→Prop} {H:List HE}
instance (t e m b q sz h:Nat)(k':IntKind)(x hi:Operand)[hu:Und P t (.array m e)][hI:SzI P e sz]:MS P w0 W H (.slice t x none (some hi) none) [.pointer (some ⟨b,q,none⟩),.int k' (h:Int)] (.slice (some ⟨b,q,none⟩) h m) (h≤m) :=
 ⟨fun hc _ _ _ _ _ _ _ _ _ _ _ _ _ h1 h2 h3=>o_val (by simp) rfl h2 (fun a w ha _=>by
  obtain⟨p1,p2⟩:=vals2 h1
  have g1:=hu.h
  obtain⟨ii,g2,g3⟩:=hI.h
  simp only[execOp,Option.map_some,Option.map_none]
  rw[ha.eval p1,show a.eval hi=_ from ha.eval p2]
  simp[Instr.sliceAt,Instr.sliceBounds,run_sliceBound,run_underlying g1,sizeOf,typeInfo,g2,Instr.sureAddr,hc]
  intro _
  simp[Addr.add]) h3⟩
end
attribute [local irreducible] OJ J HdJ Code.wpIn wpListIn Oper.wpIn bodyPost CallsIn Does
def WtOk(c:Cnf)(w:Wat):Prop:=w.l.length=32∧MarksOk c∧(0≤w.n∧w.n≤1000000000)∧(0≤w.miss∧w.miss≤1000000000)∧∀i,i<32→0≤w.l.getD i 0∧w.l.getD i 0≤640
section
variable (g:Nat) (T:TypeId) (p r:List Value) (c:Cnf) (W:Wat)
theorem wmissed_any(w:World)(hown:Own [.blk g T (p++watT c W r)] w)(hok:WtOk c W):
  Does Tryz.prog 132 [.pointer (some ⟨g,p.length,none⟩)] [.blk g T (p++watT c W r)] w
   (fun v S'=>v=.tuple #[]∧S'=[.blk g T (p++watT c { W with miss:=W.miss+1 } r)]):=by
 obtain⟨l,n,miss⟩:=W
 obtain⟨h1,h2,h3,h4,h5⟩:=hok
 dsimp only at h1 h3 h4 ⊢
 dsimp only[watT]at *
 have iL:LenE (ints .i64 l) 32:=⟨by rw[ints_len,h1]⟩
 refine does_of Tryz.func132 rfl Tryz.ntmps132 rfl hown (fun _=>?_)
 simp only[slots]
 refine z_tas
 exact j_outN rfl Sub.au ⟨rfl,rfl⟩
theorem wfound_any(z s:Int)(w:World)(hown:Own [.blk g T (p++watT c W r)] w)(hok:WtOk c W)(hz:0<z∧z≤1152921504606846976)(hs:0<s∧s≤1073741824):
  Does Tryz.prog 135 [.pointer (some ⟨g,p.length,none⟩),.agg (wideV z).toArray,.int .i64 s] [.blk g T (p++watT c W r)] w
   (fun v S'=>v=.int .i64 (surN z s)∧S'=[.blk g T (p++watT c (wFound c W z s) r)]):=by
 obtain⟨l,n,miss⟩:=W
 obtain⟨h1,⟨-,-,ho,-⟩,h3,h4,h5⟩:=hok
 unfold wFound
 dsimp only at h1 h3 h4 ⊢
 dsimp only[watT]at *
 have iL:LenE (ints .i64 l) 32:=⟨by rw[ints_len,h1]⟩
 have iS:=surprise_cv z s
 generalize surN z s=sp at *
 obtain⟨k,hk⟩:∃k:Nat,n%c.over=k:=⟨(n%c.over).toNat,by have:=Int.emod_nonneg n (show c.over≠0 by omega);omega⟩
 have hk32:k<32:=by have:=Int.emod_lt_of_pos n (show 0<c.over by omega);omega
 have iK:∀w0 W H t u a b,LV Tryz.prog w0 W H (.binOp .rem t a b u) [.int .i64 n,.int .i64 c.over] (.int .i64 (k:Int)) True:=fun _ _ _ _ _ _ _=>lvM inferInstance (by omega) (congrArg (Value.int .i64) hk)
 have iE:=set_ints l k (by omega) sp (.int .i64 n::.int .i64 miss::r)
 have iL2:LenE (ints .i64 (l.set k sp)) 32:=⟨by rw[ints_len,List.length_set,h1]⟩
 have iX:SetAt (p++(.int .i64 c.second::.int .i64 c.trust::.int .i64 c.over::.int .i64 c.miss::.int .i64 c.power::.int .i64 c.tries::(ints .i64 l++(.int .i64 n::.int .i64 miss::r)))) (p.length+6+k) (.int .i64 sp) (p++(.int .i64 c.second::.int .i64 c.trust::.int .i64 c.over::.int .i64 c.miss::.int .i64 c.power::.int .i64 c.tries::(ints .i64 (l.set k sp)++(.int .i64 n::.int .i64 miss::r)))):=by
  have e:SetAt ([.int .i64 c.second,.int .i64 c.trust,.int .i64 c.over,.int .i64 c.miss,.int .i64 c.power,.int .i64 c.tries]++(ints .i64 l++(.int .i64 n::.int .i64 miss::r))) ([Value.int .i64 c.second,.int .i64 c.trust,.int .i64 c.over,.int .i64 c.miss,.int .i64 c.power,.int .i64 c.tries].length+k) (.int .i64 sp) ([.int .i64 c.second,.int .i64 c.trust,.int .i64 c.over,.int .i64 c.miss,.int .i64 c.power,.int .i64 c.tries]++(ints .i64 (l.set k sp)++(.int .i64 n::.int .i64 miss::r))):=inferInstance
  have e2:SetAt (p++([.int .i64 c.second,.int .i64 c.trust,.int .i64 c.over,.int .i64 c.miss,.int .i64 c.power,.int .i64 c.tries]++(ints .i64 l++(.int .i64 n::.int .i64 miss::r)))) (p.length+(6+k)) (.int .i64 sp) (p++([.int .i64 c.second,.int .i64 c.trust,.int .i64 c.over,.int .i64 c.miss,.int .i64 c.power,.int .i64 c.tries]++(ints .i64 (l.set k sp)++(.int .i64 n::.int .i64 miss::r)))):=by
   have e0:SetAt ([.int .i64 c.second,.int .i64 c.trust,.int .i64 c.over,.int .i64 c.miss,.int .i64 c.power,.int .i64 c.tries]++(ints .i64 l++(.int .i64 n::.int .i64 miss::r))) (6+k) (.int .i64 sp) ([.int .i64 c.second,.int .i64 c.trust,.int .i64 c.over,.int .i64 c.miss,.int .i64 c.power,.int .i64 c.tries]++(ints .i64 (l.set k sp)++(.int .i64 n::.int .i64 miss::r))):=e
   infer_instance
  rw[Nat.add_assoc]
  exact e2
 rw[hk,Int.toNat_natCast]
 refine does_of Tryz.func135 rfl Tryz.ntmps135 rfl hown (fun _=>?_)
 simp only[slots]
 refine z_tas
 refine c_dvL [] (0::1::2::3::4::5::6::7::8::9::10::11::12::13::14::15::[]) (.nil _) ?_;intro _
 refine z_gvx
 all_goals exact j_out1 rfl rfl Sub.au ⟨rfl,rfl⟩
theorem wmean_any(w:World)(hok:WtOk c W):
  Does Tryz.prog 87 [.agg (watT c W []).toArray] [] w (fun v S'=>v=.int .i64 (wMean c W)∧S'=[]):=by
 obtain⟨l,n,miss⟩:=W
 obtain⟨h1,⟨-,-,ho,-⟩,h3,h4,h5⟩:=hok
 unfold wMean
 dsimp only at h1 h3 h4 h5 ⊢
 dsimp only[watT]at *
 have iL:LenE (ints .i64 l) 32:=⟨by rw[ints_len,h1]⟩
 obtain⟨m,hm⟩:∃m:Nat,min n c.over=m:=⟨(min n c.over).toNat,by omega⟩
 have hm32:m≤32:=by omega
 have hs:=fun i (hi:i≤32)=>sumL_in (l:=l) (B:=640) (fun j hj=>h5 j (by omega)) i (by omega)
 rw[hm,Int.toNat_natCast]
 refine does_of Tryz.func87 rfl Tryz.ntmps87 rfl ⟨by simp,.nil⟩ (fun _=>?_)
 simp only[slots]
 have iM:∀w0 W H x y ts,MS Tryz.prog w0 W H (.call ⟨.builtin .min,#[x,y],ts⟩) [.int .i64 n,.int .i64 c.over] (.int .i64 (m:Int)) True:=fun _ _ _ _ _ _=>msM inferInstance trivial (congrArg (Value.int .i64) hm)
 rcases Nat.eq_zero_or_pos m with h0|h0
 ·subst h0
  rw[if_pos (by rfl)]
  refine z_tas
  refine z_ro
  exact⟨rfl,rfl⟩
 ·rw[if_neg (by omega)]
  have iZ:SzI Tryz.prog 2 1:=⟨Tryz.t2,by kernel_rfl,by kernel_rfl⟩
  refine z_tas
  rename_i b1 _
  refine c_loop (X:=Nat) (fun i=>i≤m) (fun i=>[(1,.pointer (some ⟨b1,0,none⟩)),(3,.int .i64 m),(4,.int .i64 (sumL l i)),(17,.slice (some ⟨b1,6,none⟩) m 32),(18,.int .i64 m),(19,.int .i64 i)]) (fun _=>[.blk b1 105 (.int .i64 c.second::.int .i64 c.trust::.int .i64 c.over::.int .i64 c.miss::.int .i64 c.power::.int .i64 c.tries::(ints .i64 l++[.int .i64 n,.int .i64 miss]))]) (fun i=>m-i) 0 (Nat.zero_le _) ⟨rfl,rfl,rfl,rfl,rfl,rfl,trivial⟩ Sub.au ?_
  intro i hi
  rcases Nat.lt_or_ge i m with h|h
  ·have e:sumL l (i+1)=sumL l i+l.getD i 0:=rfl
   have hs1:=hs i (by omega)
   have hpi:=h5 i (by omega)
   have iG:Get (Value.int .i64 c.second::.int .i64 c.trust::.int .i64 c.over::.int .i64 c.miss::.int .i64 c.power::.int .i64 c.tries::(ints .i64 l++[.int .i64 n,.int .i64 miss])) (6+i) (.int .i64 (l.getD i 0)):=⟨by
    have:=(get_ints l i (by omega) [.int .i64 n,.int .i64 miss]).h
    rw[show 6+i=i+1+1+1+1+1+1 by omega]
    simpa using this⟩
   clear hs
   generalize sumL l i=s at *
   refine z_tas
   exact c_round (i+1) h (by show m-(i+1)<m-i;omega) ⟨rfl,rfl,by rw[e];rfl,rfl,rfl,by simp[look],trivial⟩ Sub.au
  ·obtain rfl:i=m:=by omega
   have hsm:=hs i hm32
   refine z_tas
   refine z_ro
   exact⟨rfl,rfl⟩
theorem wlost_any(w:World)(hok:WtOk c W):
  Does Tryz.prog 41 [.agg (watT c W []).toArray] [] w (fun v S'=>v=.bool (wLost c W)∧S'=[]):=by
 have hok2:=hok
 have iN:CV Tryz.prog 87 [.agg (watT c W []).toArray] (.int .i64 (wMean c W)) True:=⟨fun _ w=>wmean_any c W w hok2⟩
 unfold wLost
 generalize wMean c W=mn at *
 obtain⟨l,n,miss⟩:=W
 obtain⟨h1,⟨-,-,ho,-⟩,h3,h4,h5⟩:=hok
 dsimp only at h1 h3 h4 h5 ⊢
 dsimp only[watT]at *
 clear hok2
 have iL:LenE (ints .i64 l) 32:=⟨by rw[ints_len,h1]⟩
 refine does_of Tryz.func41 rfl Tryz.ntmps41 rfl ⟨by simp,.nil⟩ (fun _=>?_)
 simp only[slots]
 refine z_tas
 refine c_dv (0::1::2::3::4::5::6::7::8::9::10::11::12::13::14::15::16::17::18::19::20::21::22::[]) ?_;intro _
 refine z_govG
 all_goals first
  | exact j_out1 rfl rfl (.nil _) ⟨(congrArg Value.bool (by rw[Bool.eq_iff_iff];simp only[decide_eq_true_eq,Bool.and_eq_true,Bool.or_eq_true,Bool.not_eq_true,beq_iff_eq,bne_iff_ne,true_iff,iff_true,false_iff,iff_false,Bool.false_eq_true,not_false_eq_true,ne_eq];omega)),rfl⟩
  | (exfalso;omega)
end
end Go.Proofs.YthajpemlpmlefaaGreat
