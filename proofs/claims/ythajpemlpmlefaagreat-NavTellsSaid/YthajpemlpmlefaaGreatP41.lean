import Derived.Test.YthajpemlpmlefaaGreatP27
set_option maxHeartbeats 512000000
set_option maxRecDepth 4000
set_option linter.unusedVariables false
set_option linter.unusedSimpArgs false
namespace Go.Proofs.YthajpemlpmlefaaGreat
open Go.RowKit
attribute [local irreducible] OJ J HdJ Code.wpIn wpListIn Oper.wpIn bodyPost CallsIn Does
instance right_cv(m:Int):CV Tryz.prog 147 [.int .i64 m] (.bool (decide (0≤m∧m≤4))) True:=⟨fun _ w=>by
 refine does_of Tryz.func147 rfl Tryz.ntmps147 rfl ⟨by simp,.nil⟩ (fun n=>?_)
 simp only[slots]
 refine z_tas
 all_goals exact j_out1 rfl rfl (.nil _) ⟨(congrArg Value.bool (by rw[Bool.eq_iff_iff];simp only[decide_eq_true_eq,Bool.and_eq_true,Bool.or_eq_true,Bool.not_eq_true,beq_iff_eq,bne_iff_ne,true_iff,iff_true,false_iff,iff_false,Bool.false_eq_true,not_false_eq_true,ne_eq];omega)),rfl⟩⟩
instance holds_cv(m:Int):CV Tryz.prog 38 [.int .i64 m] (.bool (decide (m=2∨m=3))) True:=⟨fun _ w=>by
 refine does_of Tryz.func38 rfl Tryz.ntmps38 rfl ⟨by simp,.nil⟩ (fun n=>?_)
 simp only[slots]
 refine z_tas
 all_goals exact j_out1 rfl rfl (.nil _) ⟨(congrArg Value.bool (by rw[Bool.eq_iff_iff];simp only[decide_eq_true_eq,Bool.and_eq_true,Bool.or_eq_true,Bool.not_eq_true,beq_iff_eq,bne_iff_ne,true_iff,iff_true,false_iff,iff_false,Bool.false_eq_true,not_false_eq_true,ne_eq];omega)),rfl⟩⟩
instance follow_cv(m:Int)(i:Inp):CV Tryz.prog 148 [.int .i64 m,.agg (inpE i).toArray] (.tuple #[.int .i64 (followN m i).1,.int .i64 (followN m i).2]) True:=⟨fun _ w=>by
 obtain⟨a,b,c,d,e,f,g,h,o⟩:=i
 refine does_of Tryz.func148 rfl Tryz.ntmps148 rfl ⟨by simp,.nil⟩ (fun n=>?_)
 simp only[slots]
 unfold followN
 dsimp only
 cases o<;>cases h<;>cases f<;>cases g
 all_goals refine z_tas
 all_goals (refine z_ro;exact⟨rfl,rfl⟩)⟩
instance next_cv(m:Int)(i:Inp):CV Tryz.prog 84 [.int .i64 m,.agg (inpE i).toArray] (.tuple #[.int .i64 (nextN m i).1,.int .i64 (nextN m i).2]) True:=⟨fun _ w=>by
 have iF:=follow_cv m i
 have hN:nextN m i=if m<0∨4<m∨i.broken=true∨m=4 then (4,0)else if i.stop=true then (0,3)else if m=0 then (if i.start=true then (1,1)else (0,0))else if m=1 then (if i.clear=true then (2,2)else if i.tried=true then (0,3)else (1,0))else followN m i:=rfl
 generalize followN m i=fo at *
 generalize nextN m i=v at *
 obtain⟨a,b,c,d,e,f,g,h,o⟩:=i
 dsimp only at hN iF ⊢
 refine does_of Tryz.func84 rfl Tryz.ntmps84 rfl ⟨by simp,.nil⟩ (fun n=>?_)
 simp only[slots]
 cases c<;>cases b<;>cases a<;>cases d<;>cases e
 all_goals simp only[Bool.false_eq_true,false_or,true_or,or_true,if_true,if_false]at hN
 all_goals refine z_tas
 all_goals (subst hN;refine z_ro)
 all_goals (repeat' split)
 all_goals first
  | exact⟨rfl,rfl⟩
  | (exfalso;omega)⟩
instance near_cv(x:Int):CV Tryz.prog 124 [.int .i64 x] (.bool (decide (-1125899906842624≤x∧x≤1125899906842624))) True:=⟨fun _ w=>by
 refine does_of Tryz.func124 rfl Tryz.ntmps124 rfl ⟨by simp,.nil⟩ (fun n=>?_)
 simp only[slots]
 refine z_tas
 all_goals exact j_out1 rfl rfl (.nil _) ⟨(congrArg Value.bool (by rw[Bool.eq_iff_iff];simp only[decide_eq_true_eq,Bool.and_eq_true,Bool.or_eq_true,Bool.not_eq_true,beq_iff_eq,bne_iff_ne,true_iff,iff_true,false_iff,iff_false,Bool.false_eq_true,not_false_eq_true,ne_eq];omega)),rfl⟩⟩
instance valid_cv(m f:Int):CV Tryz.prog 70 [.int .i64 m,.int .i32 f] (.bool (decide (m=2∧f=0))) True:=⟨fun _ w=>by
 refine does_of Tryz.func70 rfl Tryz.ntmps70 rfl ⟨by simp,.nil⟩ (fun n=>?_)
 simp only[slots]
 refine z_tas
 all_goals exact j_out1 rfl rfl (.nil _) ⟨(congrArg Value.bool (by rw[Bool.eq_iff_iff];simp only[decide_eq_true_eq,Bool.and_eq_true,Bool.or_eq_true,Bool.not_eq_true,beq_iff_eq,bne_iff_ne,true_iff,iff_true,false_iff,iff_false,Bool.false_eq_true,not_false_eq_true,ne_eq];omega)),rfl⟩⟩
instance tell_cv(m f s t:Int):CV Tryz.prog 69 [.int .i64 m,.int .i32 f,.int .u16 s,.int .u32 t] (.agg #[.int .i64 7,.int .u16 s,.int .u32 t,.int .i32 m,.int .i32 f,.int .i32 0]) (0≤m∧m≤4):=⟨fun hc w=>by
 refine does_of Tryz.func69 rfl Tryz.ntmps69 rfl ⟨by simp,.nil⟩ (fun n=>?_)
 simp only[slots]
 refine z_tas
 refine z_ro
 exact⟨rfl,rfl⟩⟩
end Go.Proofs.YthajpemlpmlefaaGreat
