import Derived.Test.YtbhchphfmhmabaaGreatP27
set_option maxHeartbeats 512000000
set_option maxRecDepth 4000
set_option linter.unusedVariables false
set_option linter.unusedSimpArgs false
namespace Go.Proofs.YtbhchphfmhmabaaGreat
open Go.RowKit _root_.Go.Proofs.Tryz
attribute [local irreducible] OJ J bM Code.wpIn wpListIn Oper.wpIn bodyPost CallsIn aF
instance right_cv(m:Int):CV prog 172 [.int .i64 m] (.bool (decide (0≤m∧m≤4))) True:=⟨fun _ w=>by refine aJ func172 rfl ntmps172 rfl ⟨aE,.nil⟩ (fun n=>?_);simp only[aG];refine aB;all_goals exact aM rfl rfl (.nil _) ⟨(congrArg Value.bool (by rw[Bool.eq_iff_iff];simp only[decide_eq_true_eq,Bool.and_eq_true,Bool.or_eq_true,Bool.not_eq_true,beq_iff_eq,bne_iff_ne,true_iff,iff_true,false_iff,iff_false,Bool.false_eq_true,not_false_eq_true,ne_eq];omega)),rfl⟩⟩
instance holds_cv(m:Int):CV prog 112 [.int .i64 m] (.bool (decide (m=2∨m=3))) True:=⟨fun _ w=>by refine aJ func112 rfl ntmps112 rfl ⟨aE,.nil⟩ (fun n=>?_);simp only[aG];refine aB;all_goals exact aM rfl rfl (.nil _) ⟨(congrArg Value.bool (by rw[Bool.eq_iff_iff];simp only[decide_eq_true_eq,Bool.and_eq_true,Bool.or_eq_true,Bool.not_eq_true,beq_iff_eq,bne_iff_ne,true_iff,iff_true,false_iff,iff_false,Bool.false_eq_true,not_false_eq_true,ne_eq];omega)),rfl⟩⟩
instance follow_cv(m:Int)(i:jJ):CV prog 173 [.int .i64 m,.agg (lR i).toArray] (.tuple #[.int .i64 (xU m i).1,.int .i64 (xU m i).2]) True:=⟨fun _ w=>by
 obtain⟨a,b,c,d,e,f,g,h,o⟩:=i;refine aJ func173 rfl ntmps173 rfl ⟨aE,.nil⟩ (fun n=>?_);simp only[aG];unfold xU;dsimp only;cases o<;>cases h<;>cases f<;>cases g
 all_goals refine aB
 all_goals (refine bK;exact⟨rfl,rfl⟩)⟩
instance next_cv(m:Int)(i:jJ):CV prog 120 [.int .i64 m,.agg (lR i).toArray] (.tuple #[.int .i64 (eT m i).1,.int .i64 (eT m i).2]) True:=⟨fun _ w=>by
 have iF:=follow_cv m i;have hN:eT m i=if m<0∨4<m∨i.broken=true∨m=4 then (4,0)else if i.stop=true then (0,3)else if m=0 then (if i.start=true then (1,1)else (0,0))else if m=1 then (if i.clear=true then (2,2)else if i.tried=true then (0,3)else (1,0))else xU m i:=rfl;generalize xU m i=fo at *;generalize eT m i=v at *;obtain⟨a,b,c,d,e,f,g,h,o⟩:=i;dsimp only at hN iF ⊢;refine aJ func120 rfl ntmps120 rfl ⟨aE,.nil⟩ (fun n=>?_);simp only[aG];cases c<;>cases b<;>cases a<;>cases d<;>cases e
 all_goals simp only[Bool.false_eq_true,false_or,true_or,or_true,if_true,if_false]at hN
 all_goals refine aB
 all_goals (subst hN;refine bK)
 all_goals (repeat' split)
 all_goals first
  | exact⟨rfl,rfl⟩
  | (exfalso;omega)⟩
instance near_cv(x:Int):CV prog 146 [.int .i64 x] (.bool (decide (-1125899906842624≤x∧x≤1125899906842624))) True:=⟨fun _ w=>by refine aJ func146 rfl ntmps146 rfl ⟨aE,.nil⟩ (fun n=>?_);simp only[aG];refine aB;all_goals exact aM rfl rfl (.nil _) ⟨(congrArg Value.bool (by rw[Bool.eq_iff_iff];simp only[decide_eq_true_eq,Bool.and_eq_true,Bool.or_eq_true,Bool.not_eq_true,beq_iff_eq,bne_iff_ne,true_iff,iff_true,false_iff,iff_false,Bool.false_eq_true,not_false_eq_true,ne_eq];omega)),rfl⟩⟩
instance valid_cv(m f:Int):CV prog 104 [.int .i64 m,.int .i32 f] (.bool (decide (m=2∧f=0))) True:=⟨fun _ w=>by refine aJ func104 rfl ntmps104 rfl ⟨aE,.nil⟩ (fun n=>?_);simp only[aG];refine aB;all_goals exact aM rfl rfl (.nil _) ⟨(congrArg Value.bool (by rw[Bool.eq_iff_iff];simp only[decide_eq_true_eq,Bool.and_eq_true,Bool.or_eq_true,Bool.not_eq_true,beq_iff_eq,bne_iff_ne,true_iff,iff_true,false_iff,iff_false,Bool.false_eq_true,not_false_eq_true,ne_eq];omega)),rfl⟩⟩
instance tell_cv(m f s t:Int):CV prog 103 [.int .i64 m,.int .i32 f,.int .u16 s,.int .u32 t] (.agg #[.int .i64 7,.int .u16 s,.int .u32 t,.int .i32 m,.int .i32 f,.int .i32 0]) (0≤m∧m≤4):=⟨fun hc w=>by refine aJ func103 rfl ntmps103 rfl ⟨aE,.nil⟩ (fun n=>?_);simp only[aG];refine aB;refine bK;exact⟨rfl,rfl⟩⟩
