import Derived.Test.YtpmkboockihdbaaGreatP36
set_option maxHeartbeats 512000000
set_option maxRecDepth 4000
set_option linter.unusedVariables false
set_option linter.unusedSimpArgs false
namespace Go.Proofs.YtpmkboockihdbaaGreat
open Go.RowKit _root_.Go.Proofs.Tryz
section
variable {P:Program} {w0:World} {W:Nat→Prop} {H:List HE}
instance (t e m b q sz h:Nat)(k':IntKind)(x hi:Operand)[hu:aO P t (.array m e)][hI:rO P e sz]:MS P w0 W H (.slice t x none (some hi) none) [.pointer (some ⟨b,q,none⟩),.int k' (h:Int)] (.slice (some ⟨b,q,none⟩) h m) (h≤m) :=
 ⟨fun hc _ _ _ _ _ _ _ _ _ _ _ _ _ h1 h2 h3=>dS aE rfl h2 (fun a w ha _=>by obtain⟨p1,p2⟩:=dH h1;have g1:=hu.h;obtain⟨ii,g2,g3⟩:=hI.h;simp only[execOp,Option.map_some,Option.map_none];rw[ha.eval p1,show a.eval hi=_ from ha.eval p2];simp[Instr.sliceAt,Instr.sliceBounds,run_sliceBound,run_underlying g1,sizeOf,typeInfo,g2,Instr.sureAddr,hc];intro _;simp[Addr.add]) h3⟩
end
attribute [local irreducible] OJ J bO Code.wpIn wpListIn Oper.wpIn bodyPost CallsIn aF
def yI(c:dJ)(w:qO):Prop:=w.l.length=32∧nA c∧(0≤w.n∧w.n≤1000000000)∧(0≤w.miss∧w.miss≤1000000000)∧∀i,i<32→0≤w.l.getD i 0∧w.l.getD i 0≤640
section
variable (g:Nat) (T:TypeId) (p r:List Value) (c:dJ) (W:qO)
theorem bCx(w:World)(hown:aZ [.blk g T (p++jI c W r)] w)(hok:yI c W):
  aF prog 184 [.pointer (some ⟨g,p.length,none⟩)] [.blk g T (p++jI c W r)] w
   (fun v S'=>v=.tuple #[]∧S'=[.blk g T (p++jI c { W with miss:=W.miss+1 } r)]):=by
 obtain⟨l,n,miss⟩:=W;obtain⟨h1,h2,h3,h4,h5⟩:=hok;dsimp only at h1 h3 h4 ⊢;dsimp only[jI]at *;have iL:fT (aC .i64 l) 32:=⟨by rw[gN,h1]⟩;refine aJ func184 rfl ntmps184 rfl hown (fun _=>?_);simp only[aG];refine aB;exact oX rfl aA.au ⟨rfl,rfl⟩
theorem bCr(z s:Int)(w:World)(hown:aZ [.blk g T (p++jI c W r)] w)(hok:yI c W)(hz:0<z∧z≤1152921504606846976)(hs:0<s∧s≤1073741824):
  aF prog 187 [.pointer (some ⟨g,p.length,none⟩),.agg (cH z).toArray,.int .i64 s] [.blk g T (p++jI c W r)] w
   (fun v S'=>v=.int .i64 (uQ z s)∧S'=[.blk g T (p++jI c (oJ c W z s) r)]):=by
 obtain⟨l,n,miss⟩:=W;obtain⟨h1,⟨-,-,ho,-⟩,h3,h4,h5⟩:=hok;unfold oJ;dsimp only at h1 h3 h4 ⊢;dsimp only[jI]at *;have iL:fT (aC .i64 l) 32:=⟨by rw[gN,h1]⟩;have iS:=surprise_cv z s;generalize uQ z s=sp at *;obtain⟨k,hk⟩:∃k:Nat,n%c.over=k:=⟨(n%c.over).toNat,by have:=Int.emod_nonneg n (show c.over≠0 by omega);omega⟩;have hk32:k<32:=by have:=Int.emod_lt_of_pos n (show 0<c.over by omega);omega
 have iK:∀w0 W H t u a b,LV prog w0 W H (.binOp .rem t a b u) [.int .i64 n,.int .i64 c.over] (.int .i64 (k:Int)) True:=fun _ _ _ _ _ _ _=>gO inferInstance oo (congrArg (Value.int .i64) hk);have iE:=bAv l k oo sp (.int .i64 n::.int .i64 miss::r);have iL2:fT (aC .i64 (l.set k sp)) 32:=⟨by rw[gN,List.length_set,h1]⟩;have iX:jL (p++(.int .i64 c.second::.int .i64 c.trust::.int .i64 c.over::.int .i64 c.miss::.int .i64 c.power::.int .i64 c.tries::(aC .i64 l++(.int .i64 n::.int .i64 miss::r)))) (p.length+6+k) (.int .i64 sp) (p++(.int .i64 c.second::.int .i64 c.trust::.int .i64 c.over::.int .i64 c.miss::.int .i64 c.power::.int .i64 c.tries::(aC .i64 (l.set k sp)++(.int .i64 n::.int .i64 miss::r)))):=by
  have e:jL ([.int .i64 c.second,.int .i64 c.trust,.int .i64 c.over,.int .i64 c.miss,.int .i64 c.power,.int .i64 c.tries]++(aC .i64 l++(.int .i64 n::.int .i64 miss::r))) ([Value.int .i64 c.second,.int .i64 c.trust,.int .i64 c.over,.int .i64 c.miss,.int .i64 c.power,.int .i64 c.tries].length+k) (.int .i64 sp) ([.int .i64 c.second,.int .i64 c.trust,.int .i64 c.over,.int .i64 c.miss,.int .i64 c.power,.int .i64 c.tries]++(aC .i64 (l.set k sp)++(.int .i64 n::.int .i64 miss::r))):=inferInstance;have e2:jL (p++([.int .i64 c.second,.int .i64 c.trust,.int .i64 c.over,.int .i64 c.miss,.int .i64 c.power,.int .i64 c.tries]++(aC .i64 l++(.int .i64 n::.int .i64 miss::r)))) (p.length+(6+k)) (.int .i64 sp) (p++([.int .i64 c.second,.int .i64 c.trust,.int .i64 c.over,.int .i64 c.miss,.int .i64 c.power,.int .i64 c.tries]++(aC .i64 (l.set k sp)++(.int .i64 n::.int .i64 miss::r)))):=by
   have e0:jL ([.int .i64 c.second,.int .i64 c.trust,.int .i64 c.over,.int .i64 c.miss,.int .i64 c.power,.int .i64 c.tries]++(aC .i64 l++(.int .i64 n::.int .i64 miss::r))) (6+k) (.int .i64 sp) ([.int .i64 c.second,.int .i64 c.trust,.int .i64 c.over,.int .i64 c.miss,.int .i64 c.power,.int .i64 c.tries]++(aC .i64 (l.set k sp)++(.int .i64 n::.int .i64 miss::r))):=e
   infer_instance
  rw[Nat.add_assoc];exact e2
 rw[hk,Int.toNat_natCast];refine aJ func187 rfl ntmps187 rfl hown (fun _=>?_);simp only[aG];refine aB;refine fL [] (0::1::2::3::4::5::6::7::8::9::10::11::12::13::14::15::[]) (.nil _) ?_;intro _;refine cF;all_goals exact aK rfl rfl aA.au ⟨rfl,rfl⟩
theorem bCw(w:World)(hok:yI c W):
  aF prog 150 [.agg (jI c W []).toArray] [] w (fun v S'=>v=.int .i64 (aBx c W)∧S'=[]):=by
 obtain⟨l,n,miss⟩:=W;obtain⟨h1,⟨-,-,ho,-⟩,h3,h4,h5⟩:=hok;unfold aBx;dsimp only at h1 h3 h4 h5 ⊢;dsimp only[jI]at *;have iL:fT (aC .i64 l) 32:=⟨by rw[gN,h1]⟩;obtain⟨m,hm⟩:∃m:Nat,min n c.over=m:=⟨(min n c.over).toNat,oo⟩;have hm32:m≤32:=oo;have hs:=fun i (hi:i≤32)=>pG (l:=l) (B:=640) (fun j hj=>h5 j oo) i oo;rw[hm,Int.toNat_natCast];refine aJ func150 rfl ntmps150 rfl ⟨aE,.nil⟩ (fun _=>?_);simp only[aG];have iM:∀w0 W H x y ts,MS prog w0 W H (.call ⟨.builtin .min,#[x,y],ts⟩) [.int .i64 n,.int .i64 c.over] (.int .i64 (m:Int)) True:=fun _ _ _ _ _ _=>bM inferInstance trivial (congrArg (Value.int .i64) hm);rcases Nat.eq_zero_or_pos m with h0|h0
 ·subst h0;rw[if_pos (by rfl)];refine aB;refine bI;exact⟨rfl,rfl⟩
 ·rw[if_neg oo];have iZ:rO prog 2 1:=⟨Tryz.t2,by kernel_rfl,by kernel_rfl⟩;refine aB;rename_i b1 _;refine bT (X:=Nat) (fun i=>i≤m) (fun i=>[(1,.pointer (some ⟨b1,0,none⟩)),(3,.int .i64 m),(4,.int .i64 (aM l i)),(17,.slice (some ⟨b1,6,none⟩) m 32),(18,.int .i64 m),(19,.int .i64 i)]) (fun _=>[.blk b1 169 (.int .i64 c.second::.int .i64 c.trust::.int .i64 c.over::.int .i64 c.miss::.int .i64 c.power::.int .i64 c.tries::(aC .i64 l++[.int .i64 n,.int .i64 miss]))]) (fun i=>m-i) 0 (Nat.zero_le _) ⟨rfl,rfl,rfl,rfl,rfl,rfl,trivial⟩ aA.au ?_;intro i hi;rcases Nat.lt_or_ge i m with h|h
  ·have e:aM l (i+1)=aM l i+l.getD i 0:=rfl;have hs1:=hs i oo;have hpi:=h5 i oo;have iG:cZ (Value.int .i64 c.second::.int .i64 c.trust::.int .i64 c.over::.int .i64 c.miss::.int .i64 c.power::.int .i64 c.tries::(aC .i64 l++[.int .i64 n,.int .i64 miss])) (6+i) (.int .i64 (l.getD i 0)):=⟨by have:=(aUj l i oo [.int .i64 n,.int .i64 miss]).h;rw[show 6+i=i+1+1+1+1+1+1 by omega];simpa using this⟩;clear hs;generalize aM l i=s at *;refine aB;exact aN (i+1) h (by show m-(i+1)<m-i;omega) ⟨rfl,rfl,by rw[e];rfl,rfl,rfl,by simp[aH],trivial⟩ aA.au
  ·obtain rfl:i=m:=oo;have hsm:=hs i hm32;refine aB;refine bI;exact⟨rfl,rfl⟩
theorem aPl(w:World)(hok:yI c W):
  aF prog 95 [.agg (jI c W []).toArray] [] w (fun v S'=>v=.bool (uT c W)∧S'=[]):=by
 have hok2:=hok;have iN:CV prog 150 [.agg (jI c W []).toArray] (.int .i64 (aBx c W)) True:=⟨fun _ w=>bCw c W w hok2⟩;unfold uT;generalize aBx c W=mn at *;obtain⟨l,n,miss⟩:=W;obtain⟨h1,⟨-,-,ho,-⟩,h3,h4,h5⟩:=hok;dsimp only at h1 h3 h4 h5 ⊢;dsimp only[jI]at *;clear hok2;have iL:fT (aC .i64 l) 32:=⟨by rw[gN,h1]⟩;refine aJ func95 rfl ntmps95 rfl ⟨aE,.nil⟩ (fun _=>?_);simp only[aG];refine aB;refine kC (0::1::2::3::4::5::6::7::8::9::10::11::12::13::14::15::16::17::18::19::20::21::22::[]) ?_;intro _;refine gP;all_goals first
  | exact aK rfl rfl (.nil _) ⟨(congrArg Value.bool (by rw[Bool.eq_iff_iff];simp only[decide_eq_true_eq,Bool.and_eq_true,Bool.or_eq_true,Bool.not_eq_true,beq_iff_eq,bne_iff_ne,true_iff,iff_true,false_iff,iff_false,Bool.false_eq_true,not_false_eq_true,ne_eq];omega)),rfl⟩
  | (exfalso;omega)
end
