import Derived.Test.YtpmkboockihdbaaGreatP42
set_option maxHeartbeats 512000000
set_option maxRecDepth 4000
set_option linter.unusedVariables false
set_option linter.unusedSimpArgs false
namespace Go.Proofs.YtpmkboockihdbaaGreat
open Go.RowKit _root_.Go.Proofs.Tryz
theorem cX.nvl{s:aL}{k:Nat}(h:cX s k):jS s:=⟨h.p.len,h.w.len⟩
theorem cX.marks{s:aL}{k:Nat}(h:cX s k):nA s.cf:=(rT h.cf).2.1
theorem cX.wt{s:aL}{k:Nat}(h:cX s k)(hk:k≤100000000):yI s.cf s.w:=⟨h.w.len,h.marks,⟨h.w.n.1,by have:=h.w.n.2;omega⟩,⟨h.w.miss.1,by have:=h.w.miss.2;omega⟩,fun i _=>h.w.all i⟩
theorem aU3(s:aL):qB s=flN (fM s.mode&&aAc s.cf s.g) (fM s.mode&&uT s.cf s.w) (xL s) (fM s.mode&&s.void) s.fail:=rfl
attribute [local irreducible] OJ J bO Code.wpIn wpListIn Oper.wpIn bodyPost CallsIn aF
theorem aKs(g k:Nat)(s:aL)(a:bR)(w:World)(hown:aZ [.blk g 173 (aI s a)] w)(hN:cX s k)(hk:k≤100000000)(hr:bF w (aV [.blk g 173 (aI s a)]) a.Ag s.g.p.length a.cg 1 (aC .i64 s.g.p)):
  aF prog 46 [.pointer (some ⟨g,0,none⟩)] [.blk g 173 (aI s a)] w (fun v S'=>v=.int .i32 (qB s)∧S'=[.blk g 173 (aI s a)]):=by
 have i1:=gT hN.nvl;have i2:=jU hN.nvl;have hm:=hN.marks;have hwt:=hN.wt hk;have hT:=fun hd w hw=>bC6 s.g a.Ag a.cg s.cf w hw (hN.g hd).1 hm;have hL:=fun w=>aPl s.cf s.w w hwt;have hmk:=hm;obtain⟨-,-,-,-,hpw,-⟩:=hmk;rw[aU3];unfold xL;have i3:=holds_cv s.mode;have i4:=bover_cv s.bk s.cf.power;have i5:=aU2 (fM s.mode&&aAc s.cf s.g) (fM s.mode&&uT s.cf s.w) (fM s.mode&&decide (1099511627776/2^s.cf.power.toNat<s.bk.b)) (fM s.mode&&s.void) s.fail;generalize aAc s.cf s.g=tn at *;generalize uT s.cf s.w=ls at *;generalize decide (1099511627776/2^s.cf.power.toNat<s.bk.b)=ov at *;unfold fM at *;refine aJ func46 rfl ntmps46 rfl hown (fun _=>?_);simp only[aG];by_cases hd:s.mode=2∨s.mode=3
 ·have hT2:=hT (decide_eq_true hd);rw[decide_eq_true hd]at i3 i5 ⊢;simp only[Bool.true_and]at i5 ⊢;clear hT;have iLs:CV prog 95 [.agg (jI s.cf s.w []).toArray] (.bool ls) True:=⟨fun _ w=>hL w⟩;refine aB;refine dL _ [true,true,true,true,true,true,true,true,true,true,true,false,false,true,true,true,true,true,true,false,false,true,true,true,true,true,true,true,true,true,true,true,true,false,false,true,true,true,true,true,true,true,true,true,true,true,false,false] [11,12,19,20,33,34,46,47] (aA.refl _) rfl od bD ?_;repeat' (first|refine gB rfl rfl rfl ?_|(refine fZ rfl rfl rfl ?_ ?_;(next=>first|exact trivial|omega))|refine fO ?_)
  refine gH ?_;intro _;refine cF;all_goals refine bQ rfl rfl rfl (fun w hw=>hT2 w ⟨hr.h.go hw (aD.nil _)⟩) ?_
  all_goals refine cF
  all_goals exact aK rfl rfl aA.au ⟨rfl,rfl⟩
 ·rw[decide_eq_false hd]at i3 i5 ⊢;simp only[Bool.false_and]at i5 ⊢;clear hT hL;refine aB;refine dL _ [true,true,true,true,true,true,true,true,true,true,true,false,false,true,true,true,true,true,true,false,false,true,true,true,true,true,true,true,true,true,true,true,true,false,false,true,true,true,true,true,true,true,true,true,true,true,false,false] [11,12,19,20,33,34,46,47] (aA.refl _) rfl od bD ?_;repeat' (first|refine gB rfl rfl rfl ?_|(refine fZ rfl rfl rfl ?_ ?_;(next=>first|exact trivial|omega))|refine fO ?_)
  refine gH ?_;intro _;refine cF;all_goals exact aK rfl rfl aA.au ⟨rfl,rfl⟩
