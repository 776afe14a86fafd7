import Derived.Test.YthajpemlpmlefaaGreatP42
set_option maxHeartbeats 512000000
set_option maxRecDepth 4000
set_option linter.unusedVariables false
set_option linter.unusedSimpArgs false
namespace Go.Proofs.YthajpemlpmlefaaGreat
open Go.RowKit
theorem NavOk.nvl{s:NavS}{k:Nat}(h:NavOk s k):NvL s:=⟨h.p.len,h.w.len⟩
theorem NavOk.marks{s:NavS}{k:Nat}(h:NavOk s k):MarksOk s.cf:=(cnfC_ok h.cf).2.1
theorem NavOk.wt{s:NavS}{k:Nat}(h:NavOk s k)(hk:k≤100000000):WtOk s.cf s.w:=⟨h.w.len,h.marks,⟨h.w.n.1,by have:=h.w.n.2;omega⟩,⟨h.w.miss.1,by have:=h.w.miss.2;omega⟩,fun i _=>h.w.all i⟩
theorem flagsN_eq(s:NavS):flagsN s=flN (holdsN s.mode&&tornN s.cf s.g) (holdsN s.mode&&wLost s.cf s.w) (overN s) (holdsN s.mode&&s.void) s.fail:=rfl
attribute [local irreducible] OJ J HdJ Code.wpIn wpListIn Oper.wpIn bodyPost CallsIn Does
theorem flags_any(g k:Nat)(s:NavS)(a:NvA)(w:World)(hown:Own [.blk g 109 (navE s a)] w)(hN:NavOk s k)(hk:k≤100000000)(hr:RoA w (blocks [.blk g 109 (navE s a)]) a.Ag s.g.p.length a.cg 1 (ints .i64 s.g.p)):
  Does Tryz.prog 15 [.pointer (some ⟨g,0,none⟩)] [.blk g 109 (navE s a)] w (fun v S'=>v=.int .i32 (flagsN s)∧S'=[.blk g 109 (navE s a)]):=by
 have i1:=nv_p hN.nvl
 have i2:=nv_w hN.nvl
 have hm:=hN.marks
 have hwt:=hN.wt hk
 have hT:=fun hd w hw=>torn_any s.g a.Ag a.cg s.cf w hw (hN.g hd).1 hm
 have hL:=fun w=>wlost_any s.cf s.w w hwt
 have hmk:=hm
 obtain⟨-,-,-,-,hpw,-⟩:=hmk
 rw[flagsN_eq]
 unfold overN
 have i3:=holds_cv s.mode
 have i4:=bover_cv s.bk s.cf.power
 have i5:=flags5_cv (holdsN s.mode&&tornN s.cf s.g) (holdsN s.mode&&wLost s.cf s.w) (holdsN s.mode&&decide (1099511627776/2^s.cf.power.toNat<s.bk.b)) (holdsN s.mode&&s.void) s.fail
 generalize tornN s.cf s.g=tn at *
 generalize wLost s.cf s.w=ls at *
 generalize decide (1099511627776/2^s.cf.power.toNat<s.bk.b)=ov at *
 unfold holdsN at *
 refine does_of Tryz.func15 rfl Tryz.ntmps15 rfl hown (fun _=>?_)
 simp only[slots]
 by_cases hd:s.mode=2∨s.mode=3
 ·have hT2:=hT (decide_eq_true hd)
  rw[decide_eq_true hd]at i3 i5 ⊢
  simp only[Bool.true_and]at i5 ⊢
  clear hT
  have iLs:CV Tryz.prog 41 [.agg (watT s.cf s.w []).toArray] (.bool ls) True:=⟨fun _ w=>hL w⟩
  refine z_tas
  refine c_drx _ [true,true,true,true,true,true,true,true,true,true,true,false,false,true,true,true,true,true,true,false,false,true,true,true,true,true,true,true,true,true,true,true,true,false,false,true,true,true,true,true,true,true,true,true,true,true,false,false] [11,12,19,20,33,34,46,47] (Sub.refl _) rfl (by decide) (by decide +kernel) ?_
  repeat' (first|refine x_skip rfl rfl rfl ?_|(refine x_run rfl rfl rfl ?_ ?_;(next=>first|exact trivial|omega))|refine x_nil ?_)
  refine t_weakV ?_
  intro _
  refine z_gvx
  all_goals refine lfv rfl rfl rfl (fun w hw=>hT2 w ⟨hr.h.go hw (Split.nil _)⟩) ?_
  all_goals refine z_gvx
  all_goals exact j_out1 rfl rfl Sub.au ⟨rfl,rfl⟩
 ·rw[decide_eq_false hd]at i3 i5 ⊢
  simp only[Bool.false_and]at i5 ⊢
  clear hT hL
  refine z_tas
  refine c_drx _ [true,true,true,true,true,true,true,true,true,true,true,false,false,true,true,true,true,true,true,false,false,true,true,true,true,true,true,true,true,true,true,true,true,false,false,true,true,true,true,true,true,true,true,true,true,true,false,false] [11,12,19,20,33,34,46,47] (Sub.refl _) rfl (by decide) (by decide +kernel) ?_
  repeat' (first|refine x_skip rfl rfl rfl ?_|(refine x_run rfl rfl rfl ?_ ?_;(next=>first|exact trivial|omega))|refine x_nil ?_)
  refine t_weakV ?_
  intro _
  refine z_gvx
  all_goals exact j_out1 rfl rfl Sub.au ⟨rfl,rfl⟩
end Go.Proofs.YthajpemlpmlefaaGreat
