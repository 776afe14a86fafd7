import Derived.Test.YtbhchphfmhmabaaGreatP42
set_option maxHeartbeats 512000000
set_option maxRecDepth 4000
set_option linter.unusedVariables false
set_option linter.unusedSimpArgs false
namespace Go.Proofs.YtbhchphfmhmabaaGreat
open Go.RowKit _root_.Go.Proofs.Tryz
theorem cS.nvl{s:aK}{k:Nat}(h:cS s k):kD s:=⟨h.p.len,h.w.len⟩
theorem cS.marks{s:aK}{k:Nat}(h:cS s k):lZ s.cf:=(qP h.cf).2.1
theorem cS.wt{s:aK}{k:Nat}(h:cS s k)(hk:k≤100000000):xM s.cf s.w:=⟨h.w.len,h.marks,⟨h.w.n.1,by have:=h.w.n.2;omega⟩,⟨h.w.miss.1,by have:=h.w.miss.2;omega⟩,fun i _=>h.w.all i⟩
theorem aTh(s:aK):pP s=flN (fG s.mode&&zV s.cf s.g) (fG s.mode&&uA s.cf s.w) (wQ s) (fG s.mode&&s.void) s.fail:=rfl
attribute [local irreducible] OJ J bM Code.wpIn wpListIn Oper.wpIn bodyPost CallsIn aF
theorem aK2(g k:Nat)(s:aK)(a:bQ)(w:World)(hown:aZ [.blk g 133 (aH s a)] w)(hN:cS s k)(hk:k≤100000000)(hr:bP w (bB [.blk g 133 (aH s a)]) a.Ag s.g.p.length a.cg 1 (aD .i64 s.g.p)):
  aF prog 75 [.pointer (some ⟨g,0,none⟩)] [.blk g 133 (aH s a)] w (fun v S'=>v=.int .i32 (pP s)∧S'=[.blk g 133 (aH s a)]):=by
 have i1:=gZ hN.nvl;have i2:=kO hN.nvl;have hm:=hN.marks;have hwt:=hN.wt hk;have hT:=fun hd w hw=>bBy s.g a.Ag a.cg s.cf w hw (hN.g hd).1 hm;have hL:=fun w=>aOt s.cf s.w w hwt;have hmk:=hm;obtain⟨-,-,-,-,hpw,-⟩:=hmk;rw[aTh];unfold wQ;have i3:=holds_cv s.mode;have i4:=bover_cv s.bk s.cf.power;have i5:=aTg (fG s.mode&&zV s.cf s.g) (fG s.mode&&uA s.cf s.w) (fG s.mode&&decide (1099511627776/2^s.cf.power.toNat<s.bk.b)) (fG s.mode&&s.void) s.fail;generalize zV s.cf s.g=tn at *;generalize uA s.cf s.w=ls at *;generalize decide (1099511627776/2^s.cf.power.toNat<s.bk.b)=ov at *;unfold fG at *;refine aJ func75 rfl ntmps75 rfl hown (fun _=>?_);simp only[aG];by_cases hd:s.mode=2∨s.mode=3
 ·have hT2:=hT (decide_eq_true hd);rw[decide_eq_true hd]at i3 i5 ⊢;simp only[Bool.true_and]at i5 ⊢;clear hT;have iLs:CV prog 114 [.agg (gQ s.cf s.w []).toArray] (.bool ls) True:=⟨fun _ w=>hL w⟩;refine aB;refine dM _ [true,true,true,true,true,true,true,true,true,true,true,false,false,true,true,true,true,true,true,false,false,true,true,true,true,true,true,true,true,true,true,true,true,false,false,true,true,true,true,true,true,true,true,true,true,true,false,false] [11,12,19,20,33,34,46,47] (aA.refl _) rfl od bD ?_;repeat' (first|refine fN rfl rfl rfl ?_|(refine fM rfl rfl rfl ?_ ?_;(next=>first|exact trivial|omega))|refine fC ?_)
  refine fX ?_;intro _;refine cE;all_goals refine bU rfl rfl rfl (fun w hw=>hT2 w ⟨hr.h.go hw (aC.nil _)⟩) ?_
  all_goals refine cE
  all_goals exact aM rfl rfl aA.au ⟨rfl,rfl⟩
 ·rw[decide_eq_false hd]at i3 i5 ⊢;simp only[Bool.false_and]at i5 ⊢;clear hT hL;refine aB;refine dM _ [true,true,true,true,true,true,true,true,true,true,true,false,false,true,true,true,true,true,true,false,false,true,true,true,true,true,true,true,true,true,true,true,true,false,false,true,true,true,true,true,true,true,true,true,true,true,false,false] [11,12,19,20,33,34,46,47] (aA.refl _) rfl od bD ?_;repeat' (first|refine fN rfl rfl rfl ?_|(refine fM rfl rfl rfl ?_ ?_;(next=>first|exact trivial|omega))|refine fC ?_)
  refine fX ?_;intro _;refine cE;all_goals exact aM rfl rfl aA.au ⟨rfl,rfl⟩
