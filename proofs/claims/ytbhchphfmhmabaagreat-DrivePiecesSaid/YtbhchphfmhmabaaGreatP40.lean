import Derived.Test.YtbhchphfmhmabaaGreatP36
set_option maxHeartbeats 512000000
set_option maxRecDepth 4000
set_option linter.unusedVariables false
set_option linter.unusedSimpArgs false
namespace Go.Proofs.YtbhchphfmhmabaaGreat
open Go.RowKit _root_.Go.Proofs.Tryz
section
variable {P:Program} {w0:World} {W:Nat→Prop} {H:List HE}
instance (t e m b q sz h:Nat)(k':IntKind)(x hi:Operand)[hu:aN P t (.array m e)][hI:rO P e sz]:MS P w0 W H (.slice t x none (some hi) none) [.pointer (some ⟨b,q,none⟩),.int k' (h:Int)] (.slice (some ⟨b,q,none⟩) h m) (h≤m) :=
 ⟨fun hc _ _ _ _ _ _ _ _ _ _ _ _ _ h1 h2 h3=>dW aE rfl h2 (fun a w ha _=>by obtain⟨p1,p2⟩:=dP h1;have g1:=hu.h;obtain⟨ii,g2,g3⟩:=hI.h;simp only[execOp,Option.map_some,Option.map_none];rw[ha.eval p1,show a.eval hi=_ from ha.eval p2];simp[Instr.sliceAt,Instr.sliceBounds,run_sliceBound,run_underlying g1,sizeOf,typeInfo,g2,Instr.sureAddr,hc];intro _;simp[Addr.add]) h3⟩
end
attribute [local irreducible] OJ J bM Code.wpIn wpListIn Oper.wpIn bodyPost CallsIn aF
def xM(c:dF)(w:pK):Prop:=w.l.length=32∧lZ c∧(0≤w.n∧w.n≤1000000000)∧(0≤w.miss∧w.miss≤1000000000)∧∀i,i<32→0≤w.l.getD i 0∧w.l.getD i 0≤640
section
variable (g:Nat) (T:TypeId) (p r:List Value) (c:dF) (W:pK)
theorem bCp(w:World)(hown:aZ [.blk g T (p++gQ c W r)] w)(hok:xM c W):
  aF prog 155 [.pointer (some ⟨g,p.length,none⟩)] [.blk g T (p++gQ c W r)] w
   (fun v S'=>v=.tuple #[]∧S'=[.blk g T (p++gQ c { W with miss:=W.miss+1 } r)]):=by
 obtain⟨l,n,miss⟩:=W;obtain⟨h1,h2,h3,h4,h5⟩:=hok;dsimp only at h1 h3 h4 ⊢;dsimp only[gQ]at *;have iL:fF (aD .i64 l) 32:=⟨by rw[fW,h1]⟩;refine aJ func155 rfl ntmps155 rfl hown (fun _=>?_);simp only[aG];refine aB;exact nN rfl aA.au ⟨rfl,rfl⟩
theorem bCj(z s:Int)(w:World)(hown:aZ [.blk g T (p++gQ c W r)] w)(hok:xM c W)(hz:0<z∧z≤1152921504606846976)(hs:0<s∧s≤1073741824):
  aF prog 158 [.pointer (some ⟨g,p.length,none⟩),.agg (cA z).toArray,.int .i64 s] [.blk g T (p++gQ c W r)] w
   (fun v S'=>v=.int .i64 (tW z s)∧S'=[.blk g T (p++gQ c (nF c W z s) r)]):=by
 obtain⟨l,n,miss⟩:=W;obtain⟨h1,⟨-,-,ho,-⟩,h3,h4,h5⟩:=hok;unfold nF;dsimp only at h1 h3 h4 ⊢;dsimp only[gQ]at *;have iL:fF (aD .i64 l) 32:=⟨by rw[fW,h1]⟩;have iS:=surprise_cv z s;generalize tW z s=sp at *;obtain⟨k,hk⟩:∃k:Nat,n%c.over=k:=⟨(n%c.over).toNat,by have:=Int.emod_nonneg n (show c.over≠0 by omega);omega⟩;have hk32:k<32:=by have:=Int.emod_lt_of_pos n (show 0<c.over by omega);omega
 have iK:∀w0 W H t u a b,LV prog w0 W H (.binOp .rem t a b u) [.int .i64 n,.int .i64 c.over] (.int .i64 (k:Int)) True:=fun _ _ _ _ _ _ _=>gH inferInstance oo (congrArg (Value.int .i64) hk);have iE:=bAn l k oo sp (.int .i64 n::.int .i64 miss::r);have iL2:fF (aD .i64 (l.set k sp)) 32:=⟨by rw[fW,List.length_set,h1]⟩;have iX:kF (p++(.int .i64 c.second::.int .i64 c.trust::.int .i64 c.over::.int .i64 c.miss::.int .i64 c.power::.int .i64 c.tries::(aD .i64 l++(.int .i64 n::.int .i64 miss::r)))) (p.length+6+k) (.int .i64 sp) (p++(.int .i64 c.second::.int .i64 c.trust::.int .i64 c.over::.int .i64 c.miss::.int .i64 c.power::.int .i64 c.tries::(aD .i64 (l.set k sp)++(.int .i64 n::.int .i64 miss::r)))):=by
  have e:kF ([.int .i64 c.second,.int .i64 c.trust,.int .i64 c.over,.int .i64 c.miss,.int .i64 c.power,.int .i64 c.tries]++(aD .i64 l++(.int .i64 n::.int .i64 miss::r))) ([Value.int .i64 c.second,.int .i64 c.trust,.int .i64 c.over,.int .i64 c.miss,.int .i64 c.power,.int .i64 c.tries].length+k) (.int .i64 sp) ([.int .i64 c.second,.int .i64 c.trust,.int .i64 c.over,.int .i64 c.miss,.int .i64 c.power,.int .i64 c.tries]++(aD .i64 (l.set k sp)++(.int .i64 n::.int .i64 miss::r))):=inferInstance;have e2:kF (p++([.int .i64 c.second,.int .i64 c.trust,.int .i64 c.over,.int .i64 c.miss,.int .i64 c.power,.int .i64 c.tries]++(aD .i64 l++(.int .i64 n::.int .i64 miss::r)))) (p.length+(6+k)) (.int .i64 sp) (p++([.int .i64 c.second,.int .i64 c.trust,.int .i64 c.over,.int .i64 c.miss,.int .i64 c.power,.int .i64 c.tries]++(aD .i64 (l.set k sp)++(.int .i64 n::.int .i64 miss::r)))):=by
   have e0:kF ([.int .i64 c.second,.int .i64 c.trust,.int .i64 c.over,.int .i64 c.miss,.int .i64 c.power,.int .i64 c.tries]++(aD .i64 l++(.int .i64 n::.int .i64 miss::r))) (6+k) (.int .i64 sp) ([.int .i64 c.second,.int .i64 c.trust,.int .i64 c.over,.int .i64 c.miss,.int .i64 c.power,.int .i64 c.tries]++(aD .i64 (l.set k sp)++(.int .i64 n::.int .i64 miss::r))):=e
   infer_instance
  rw[Nat.add_assoc];exact e2
 rw[hk,Int.toNat_natCast];refine aJ func158 rfl ntmps158 rfl hown (fun _=>?_);simp only[aG];refine aB;refine fJ [] (0::1::2::3::4::5::6::7::8::9::10::11::12::13::14::15::[]) (.nil _) ?_;intro _;refine cE;all_goals exact aM rfl rfl aA.au ⟨rfl,rfl⟩
theorem bCo(w:World)(hok:xM c W):
  aF prog 166 [.agg (gQ c W []).toArray] [] w (fun v S'=>v=.int .i64 (aB8 c W)∧S'=[]):=by
 obtain⟨l,n,miss⟩:=W;obtain⟨h1,⟨-,-,ho,-⟩,h3,h4,h5⟩:=hok;unfold aB8;dsimp only at h1 h3 h4 h5 ⊢;dsimp only[gQ]at *;have iL:fF (aD .i64 l) 32:=⟨by rw[fW,h1]⟩;obtain⟨m,hm⟩:∃m:Nat,min n c.over=m:=⟨(min n c.over).toNat,oo⟩;have hm32:m≤32:=oo;have hs:=fun i (hi:i≤32)=>tV (l:=l) (B:=640) (fun j hj=>h5 j oo) i oo;rw[hm,Int.toNat_natCast];refine aJ func166 rfl ntmps166 rfl ⟨aE,.nil⟩ (fun _=>?_);simp only[aG];have iM:∀w0 W H x y ts,MS prog w0 W H (.call ⟨.builtin .min,#[x,y],ts⟩) [.int .i64 n,.int .i64 c.over] (.int .i64 (m:Int)) True:=fun _ _ _ _ _ _=>cD inferInstance trivial (congrArg (Value.int .i64) hm);rcases Nat.eq_zero_or_pos m with h0|h0
 ·subst h0;rw[if_pos (by rfl)];refine aB;refine bK;exact⟨rfl,rfl⟩
 ·rw[if_neg oo];have iZ:rO prog 2 1:=⟨Tryz.t2,by kernel_rfl,by kernel_rfl⟩;refine aB;rename_i b1 _;refine cG (X:=Nat) (fun i=>i≤m) (fun i=>[(1,.pointer (some ⟨b1,0,none⟩)),(3,.int .i64 m),(4,.int .i64 (aL l i)),(17,.slice (some ⟨b1,6,none⟩) m 32),(18,.int .i64 m),(19,.int .i64 i)]) (fun _=>[.blk b1 121 (.int .i64 c.second::.int .i64 c.trust::.int .i64 c.over::.int .i64 c.miss::.int .i64 c.power::.int .i64 c.tries::(aD .i64 l++[.int .i64 n,.int .i64 miss]))]) (fun i=>m-i) 0 (Nat.zero_le _) ⟨rfl,rfl,rfl,rfl,rfl,rfl,trivial⟩ aA.au ?_;intro i hi;rcases Nat.lt_or_ge i m with h|h
  ·have e:aL l (i+1)=aL l i+l.getD i 0:=rfl;have hs1:=hs i oo;have hpi:=h5 i oo;have iG:dG (Value.int .i64 c.second::.int .i64 c.trust::.int .i64 c.over::.int .i64 c.miss::.int .i64 c.power::.int .i64 c.tries::(aD .i64 l++[.int .i64 n,.int .i64 miss])) (6+i) (.int .i64 (l.getD i 0)):=⟨by have:=(aTy l i oo [.int .i64 n,.int .i64 miss]).h;rw[show 6+i=i+1+1+1+1+1+1 by omega];simpa using this⟩;clear hs;generalize aL l i=s at *;refine aB;exact aR (i+1) h (by show m-(i+1)<m-i;omega) ⟨rfl,rfl,by rw[e];rfl,rfl,rfl,by simp[aI],trivial⟩ aA.au
  ·obtain rfl:i=m:=oo;have hsm:=hs i hm32;refine aB;refine bK;exact⟨rfl,rfl⟩
theorem aOt(w:World)(hok:xM c W):
  aF prog 114 [.agg (gQ c W []).toArray] [] w (fun v S'=>v=.bool (uA c W)∧S'=[]):=by
 have hok2:=hok;have iN:CV prog 166 [.agg (gQ c W []).toArray] (.int .i64 (aB8 c W)) True:=⟨fun _ w=>bCo c W w hok2⟩;unfold uA;generalize aB8 c W=mn at *;obtain⟨l,n,miss⟩:=W;obtain⟨h1,⟨-,-,ho,-⟩,h3,h4,h5⟩:=hok;dsimp only at h1 h3 h4 h5 ⊢;dsimp only[gQ]at *;clear hok2;have iL:fF (aD .i64 l) 32:=⟨by rw[fW,h1]⟩;refine aJ func114 rfl ntmps114 rfl ⟨aE,.nil⟩ (fun _=>?_);simp only[aG];refine aB;refine kG (0::1::2::3::4::5::6::7::8::9::10::11::12::13::14::15::16::17::18::19::20::21::22::[]) ?_;intro _;refine gO;all_goals first
  | exact aM rfl rfl (.nil _) ⟨(congrArg Value.bool (by rw[Bool.eq_iff_iff];simp only[decide_eq_true_eq,Bool.and_eq_true,Bool.or_eq_true,Bool.not_eq_true,beq_iff_eq,bne_iff_ne,true_iff,iff_true,false_iff,iff_false,Bool.false_eq_true,not_false_eq_true,ne_eq];omega)),rfl⟩
  | (exfalso;omega)
end
