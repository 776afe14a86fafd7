import Derived.Test.YthajpemlpmlefaaGreatP21
import Derived.Test.YthajpemlpmlefaaGreatP22
set_option maxHeartbeats 512000000
set_option maxRecDepth 4000
set_option linter.unusedVariables false
set_option linter.unusedSimpArgs false
namespace Go.Proofs.YthajpemlpmlefaaGreat
open Go.RowKit
theorem run_eqSpot(t u:TypeId)(x y:Operand)(a b c d:Int)(ht:t=33):PV Tryz.prog (.binOp .eql t x y u) [.agg #[.int .i64 a,.int .i64 b],.agg #[.int .i64 c,.int .i64 d]] (.bool (a==c&&b==d)) True:=⟨by
 subst ht
 rintro _ ρ ⟨dst,op',ty,pos,aft,gd⟩ rfl h w
 obtain⟨h1,h2⟩:=map2 h
 have u2:=Tryz.underlying2
 have a2:=Tryz.isAgg2
 have z2:=Tryz.sizeOf2
 have hS:Tryz.prog.underlying 33=some (.struct (Tryz.prog.fieldsOf 33)):=by kernel_rfl
 have hp:Tryz.prog.stoodInHeld 33=false:=by kernel_rfl
 have hm:Tryz.prog.eqGuardType Tryz.prog.depth 33=false:=by kernel_rfl
 simp only[execOp,h1,h2,Sem.run_bind,run_eqGuard_agg w _ _ _ _ _ _ hm,Result.andThen_ok]
 rw[run_eql_struct,show (10000:Nat)=9999+1 from rfl,run_equalIn_agg w 9999 33 _ _ hS hp]
 simp only[Program.fieldsOf,Tryz.underlying33]
 go_simp
 by_cases h1:a=c<;>by_cases h2:b=d<;>simp[h1,h2]⟩
instance (u:TypeId)(x y:Operand)(a b c d:Int):PV Tryz.prog (.binOp .eql 33 x y u) [.agg #[.int .i64 a,.int .i64 b],.agg #[.int .i64 c,.int .i64 d]] (.bool (a==c&&b==d)) True:=run_eqSpot _ u x y a b c d rfl
instance {w0:World}{W:Nat→Prop}{H:List HE}(u:TypeId)(x y:Operand)(a b c d:Int):MS Tryz.prog w0 W H (.binOp .eql 33 x y u) [.agg #[.int .i64 a,.int .i64 b],.agg #[.int .i64 c,.int .i64 d]] (.bool (a==c&&b==d)) True:=⟨by
 intro _ F n N ds σ dd ty pos aft gd K Q _ hv hdN h
 exact o_val (by simp) rfl hdN (fun a w ha _=>pq_of (o:=⟨some dd,_,ty,pos,aft,gd⟩) hv trivial a.eval (fun x _ u hu=>ha.eval hu) w) h⟩
theorem pv_eqWide(t u:TypeId)(x y:Operand)(a b c d:Int)(ht:t=238):PV Tryz.prog (.binOp .eql t x y u) [.agg #[.int .i64 a,.int .u64 b],.agg #[.int .i64 c,.int .u64 d]] (.bool (a==c&&b==d)) True:=⟨by
 subst ht
 rintro _ ρ ⟨dst,op',ty,pos,aft,gd⟩ rfl h w
 obtain⟨h1,h2⟩:=map2 h
 have u1:=Tryz.underlying2
 have a1:=Tryz.isAgg2
 have z1:=Tryz.sizeOf2
 have u2:=Tryz.underlying196
 have a2:=Tryz.isAgg196
 have z2:=Tryz.sizeOf196
 have hS:Tryz.prog.underlying 238=some (.struct (Tryz.prog.fieldsOf 238)):=by kernel_rfl
 have hp:Tryz.prog.stoodInHeld 238=false:=by kernel_rfl
 have hm:Tryz.prog.eqGuardType Tryz.prog.depth 238=false:=by kernel_rfl
 simp only[execOp,h1,h2,Sem.run_bind,run_eqGuard_agg w _ _ _ _ _ _ hm,Result.andThen_ok]
 rw[run_eql_struct,show (10000:Nat)=9999+1 from rfl,run_equalIn_agg w 9999 238 _ _ hS hp]
 simp only[Program.fieldsOf,Tryz.underlying238]
 go_simp
 by_cases h1:a=c<;>by_cases h2:b=d<;>simp[h1,h2]⟩
instance (u:TypeId)(x y:Operand)(a b c d:Int):PV Tryz.prog (.binOp .eql 238 x y u) [.agg #[.int .i64 a,.int .u64 b],.agg #[.int .i64 c,.int .u64 d]] (.bool (a==c&&b==d)) True:=pv_eqWide _ u x y a b c d rfl
instance {w0:World}{W:Nat→Prop}{H:List HE}(u:TypeId)(x y:Operand)(a b c d:Int):MS Tryz.prog w0 W H (.binOp .eql 238 x y u) [.agg #[.int .i64 a,.int .u64 b],.agg #[.int .i64 c,.int .u64 d]] (.bool (a==c&&b==d)) True:=⟨by
 intro _ F n N ds σ dd ty pos aft gd K Q _ hv hdN h
 exact o_val (by simp) rfl hdN (fun a w ha _=>pq_of (o:=⟨some dd,_,ty,pos,aft,gd⟩) hv trivial a.eval (fun x _ u hu=>ha.eval hu) w) h⟩
def cmpZ(a b:Int):Int:=if a<b then -1 else if a=b then 0 else 1
attribute [local irreducible] OJ J HdJ Code.wpIn wpListIn Oper.wpIn bodyPost CallsIn Does
instance wcmp_cv(a b:Int):CV Tryz.prog 179 [.agg (wideV a).toArray,.agg (wideV b).toArray] (.int .i64 (cmpZ a b)) True:=⟨fun _ w=>by
 have h1:a=18446744073709551616*(a/18446744073709551616)+a%18446744073709551616:=by omega
 have h2:b=18446744073709551616*(b/18446744073709551616)+b%18446744073709551616:=by omega
 have h3:0≤a%18446744073709551616∧a%18446744073709551616<18446744073709551616:=by omega
 have h4:0≤b%18446744073709551616∧b%18446744073709551616<18446744073709551616:=by omega
 refine does_of Tryz.func179 rfl Tryz.ntmps179 rfl ⟨by simp,.nil⟩ (fun n=>?_)
 simp only[slots]
 unfold cmpZ
 generalize a/18446744073709551616=p at *
 generalize a%18446744073709551616=q at *
 generalize b/18446744073709551616=r at *
 generalize b%18446744073709551616=s at *
 refine z_tas
 all_goals exact j_out1 rfl rfl (.nil _) ⟨congrArg (Value.int .i64) (by split<;>(try split)<;>omega),rfl⟩⟩
def clrB(best second num den:Int):Bool:=decide (0≤best∧0≤num∧1≤den∧(second<0∨best*num<second*den))
theorem cmpZ_pos(a b:Int):0<cmpZ a b↔b<a:=by unfold cmpZ;split<;>(try split)<;>omega
theorem clear21_any(best second num den:Int)(h1:InR .i64 best)(h2:InR .i64 second)(h3:InR .i64 num)(h4:InR .i64 den)(w:World):
  Does Tryz.prog 130 [.int .i64 best,.int .i64 second,.int .i64 num,.int .i64 den] [] w (fun v S'=>v=.bool (clrB best second num den)∧S'=[]):=by
 refine does_of Tryz.func130 rfl Tryz.ntmps130 rfl ⟨by simp,.nil⟩ (fun n=>?_)
 simp only[slots]
 have hp:=cmpZ_pos (second*den) (best*num)
 have key:clrB best second num den=true↔(0≤best∧0≤num∧1≤den∧(second<0∨best*num<second*den)):=by simp[clrB]
 have iC:CV Tryz.prog 179 [.agg (wideV (second*den)).toArray,.agg (wideV (best*num)).toArray] (.int .i64 (cmpZ (second*den) (best*num))) True:=wcmp_cv _ _
 generalize clrB best second num den=r at *
 refine z_tas
 all_goals exact j_out1 rfl rfl (.nil _) ⟨congrArg Value.bool (by rw[Bool.eq_iff_iff,key];simp only[decide_eq_true_eq,Bool.false_eq_true,false_iff,true_iff];omega),rfl⟩
instance far_cv(a b:Stp)(away:Int):CV Tryz.prog 178 [.agg (stpE a).toArray,.agg (stpE b).toArray,.int .i64 away] (.bool (farB a b away)) (((-32≤a.i∧a.i≤32)∧(-32≤a.k∧a.k≤32))∧(-32≤b.i∧b.i≤32)∧(-32≤b.k∧b.k≤32)):=⟨fun hc w=>by
 refine does_of Tryz.func178 rfl Tryz.ntmps178 rfl ⟨by simp,.nil⟩ (fun n=>?_)
 simp only[slots]
 refine z_tas
 exact j_out1 rfl rfl (.nil _) ⟨rfl,rfl⟩⟩
def ApR(W H:Nat)(f:List Int)(X Y:Int)(l:List Smp)(T:List HE)(v:Value)(S':List HE):Prop :=
 (onTo W H f X Y l l.length=true∧∃A c,v=.tuple #[.slice A (apTo W H f X Y l l.length).length c,.bool true]∧S'=.row (.slice A (apTo W H f X Y l l.length).length c) 2 1 (apTo W H f X Y l l.length).length (ints .i64 (apTo W H f X Y l l.length))::T) ∨
 (onTo W H f X Y l l.length=false∧v=.tuple #[.slice none 0 0,.bool false]∧S'=T)
theorem onTo_no{W H:Nat}{f:List Int}{X Y:Int}{l:List Smp}{i:Nat}: ∀{n:Nat},i<n→codeF W H f (X+(l.getD i default).dx) (Y+(l.getD i default).dy)≠0→onTo W H f X Y l n=false
 | n+1,hi,h=>by
  rw[onTo]
  rcases Nat.lt_or_ge i n with h1|h1
  ·rw[onTo_no h1 h];rfl
  ·obtain rfl:i=n:=by omega
   have:(codeF W H f (X+(l.getD i default).dx) (Y+(l.getD i default).dy)==0)=false:=by simpa using h
   rw[this,Bool.and_false]
theorem onTo_yes{W H:Nat}{f:List Int}{X Y:Int}{l:List Smp}{n:Nat}(h:onTo W H f X Y l n=true)(h2:codeF W H f (X+(l.getD n default).dx) (Y+(l.getD n default).dy)=0):onTo W H f X Y l (n+1)=true:=by
 rw[onTo,h,h2];rfl
theorem apart_t(K:CaT)(s:CaV)(f:List Int)(X Y b:Int)(Al:Option Addr)(cl:Nat)(l:List Smp)(w:World)(hown:Own (K.H s) w)(hF:CaF K.ys f K.room)(h:CaOk K.ys f K.room s b)(hb:b≤800000000000000000)
  (hr:RoA w (blocks (K.H s)) Al l.length cl 3 (flat smpE l)) (hm:l.length≤1000000) (hXb : -2199023255552≤X∧X≤2199023255552) (hYb : -2199023255552≤Y∧Y≤2199023255552) (hl:∀j,j<l.length→SmpOk (l.getD j default)) :
  Does Tryz.prog 229 [.pointer (some ⟨K.g,0,none⟩),.agg #[.int .i64 X,.int .i64 Y],.slice Al l.length cl] (K.H s) w
   (fun v S'=>∃s',CaOk K.ys f K.room s' (b+4*(l.length:Int))∧ApR (wY K.ys) (hY K.ys) f X Y l (K.H s') v S'):=by
 refine does_of Tryz.func229 rfl Tryz.ntmps229 rfl hown (fun n=>?_)
 simp only[slots]
 refine j_nil (e:=2) (size:=1) ?_
 refine z_tas
 rename_i b4
 refine c_loop (X:=Nat×CaV×Option Addr×Nat) (fun q=>q.1≤l.length∧CaOk K.ys f K.room q.2.1 (b+4*(q.1:Int))∧onTo (wY K.ys) (hY K.ys) f X Y l q.1=true)
  (fun q=>[(0,.pointer (some ⟨K.g,0,none⟩)),(4,.pointer (some ⟨b4,0,none⟩)),(8,.slice q.2.2.1 (apTo (wY K.ys) (hY K.ys) f X Y l q.1).length q.2.2.2),(13,.slice Al l.length cl),(14,.int .i64 l.length),(15,.int .i64 q.1)])
  (fun q=>K.HC q.2.1 [.blk b4 33 [.int .i64 X,.int .i64 Y],.row (.slice q.2.2.1 (apTo (wY K.ys) (hY K.ys) f X Y l q.1).length q.2.2.2) 2 1 (apTo (wY K.ys) (hY K.ys) f X Y l q.1).length (ints .i64 (apTo (wY K.ys) (hY K.ys) f X Y l q.1))]) (fun q=>l.length-q.1) (0,s,none,0) ⟨by omega,by simpa using h,rfl⟩ ⟨rfl,rfl,rfl,rfl,rfl,rfl,trivial⟩ (by simp only[apTo,ints,List.map_nil,List.length_nil];exact Sub.au) ?_
 rintro⟨i,s1,A1,c1⟩ ⟨hi,hk,hon⟩
 dsimp only at hi hk hon ⊢
 have hal:=apTo_len (wY K.ys) (hY K.ys) f X Y l i
 rcases Nat.lt_or_ge i l.length with hlt|hge
 ·obtain⟨bL,oL,rfl,hL⟩:=hr.at_ (by omega:0<l.length)
  have hsx:=hl i hlt
  unfold SmpOk at hsx
  have hz:=heightT_in hF.good.1 (W:=wY K.ys) (H:=hY K.ys) (X+(l.getD i default).dx) (Y+(l.getD i default).dy)
  have hno:=onTo_no (W:=wY K.ys) (H:=hY K.ys) (f:=f) (X:=X) (Y:=Y) (l:=l) hlt
  have hyes:=onTo_yes hon
  have hap:apTo (wY K.ys) (hY K.ys) f X Y l (i+1)=apTo (wY K.ys) (hY K.ys) f X Y l i++[heightT (wY K.ys) (hY K.ys) f (X+(l.getD i default).dx) (Y+(l.getD i default).dy)-(l.getD i default).z]:=rfl
  refine z_tas
  refine lf rfl rfl rfl (S:=K.H s1) (fun w hw ho=>height_t K s1 f (X+(l.getD i default).dx) (Y+(l.getD i default).dy) (b+4*(i:Int)) w ho hF hk (by omega)) ?_
  rintro v S' ⟨s',rfl,k1,rfl⟩
  generalize heightT (wY K.ys) (hY K.ys) f (X+(l.getD i default).dx) (Y+(l.getD i default).dy)=z at *
  generalize codeF (wY K.ys) (hY K.ys) f (X+(l.getD i default).dx) (Y+(l.getD i default).dy)=e at *
  generalize hga:apTo (wY K.ys) (hY K.ys) f X Y l i=ga at *
  refine z_tas
  ·refine j_out2 rfl rfl (S':=K.H s') rfl Sub.au ⟨s',k1.mono (by omega),.inr ⟨hno (by assumption),rfl,rfl⟩⟩
  ·rename_i he _ A2 c2
   refine c_round (i+1,s',A2,c2) ⟨hlt,k1.mono (by dsimp only;omega),hyes (Classical.not_not.1 he)⟩ (by show l.length-(i+1)<l.length-i;omega) ⟨rfl,rfl,by simp only[hap];rfl,rfl,rfl,by simp[look],trivial⟩ ?_
   simp only[hap]
   exact Sub.au
 ·obtain rfl:i=l.length:=by omega
  refine z_tas
  exact j_out2 rfl rfl rfl Sub.au ⟨s1,hk,.inl ⟨hon,A1,c1,rfl,rfl⟩⟩
end Go.Proofs.YthajpemlpmlefaaGreat
namespace Go.Proofs.YthajpemlpmlefaaGreat
open Go.RowKit
theorem Split.tailT:∀T:List HE,Split T T []
 | []=>.nil _
 | x::T=>.cons (.here _ _) (Split.tailT T)
theorem Split.preT(T:List HE):∀l:List HE,Split (l++T) T l
 | []=>Split.tailT T
 | y::l=>by
  have key:∀{H S R:List HE} (y:HE),Split H S R→Split (y::H) S (y::R):=by
   intro H S R y hsp
   induction hsp with
   | nil H=>exact .nil _
   | cons h _ ih=>exact .cons (.there y h) ih
  exact key y (Split.preT T l)
theorem j_swapT{N:Nat}{ds:List Deferred}{w0:World}{W:Nat→Prop}{σ:List (Nat×Value)}{S R:List HE}{q:Act→World→Prop}(h:J N ds w0 W σ (R++S) q):J N ds w0 W σ (S++R) q:=fun a w ha hw=>h a w ha (hw.perm List.perm_append_comm)
theorem blocks_perm{S T:List HE}(hp:S.Perm T):blocks S=blocks T:=by
 funext b
 apply propext
 exact⟨fun ⟨x,hx,hb⟩=>⟨x,hp.mem_iff.1 hx,hb⟩,fun ⟨x,hx,hb⟩=>⟨x,hp.mem_iff.2 hx,hb⟩⟩
theorem Sub.appT{S H:List HE}(T:List HE)(h:Sub S H):Sub (S++T) (H++T):=by
 have key:∀{H S R:List HE} (x:HE),Has H x R→Has (H++T) x (R++T):=by
  intro H S R x h
  induction h with
  | here x r=>exact .here _ _
  | there y _ ih=>exact .there y ih
 induction h with
 | nil H =>
  induction H with
  | nil=>exact Sub.refl _
  | cons y H ih=>exact Sub.skip ih y
 | cons h _ ih=>exact .cons (key (S:=[]) _ h) ih
@[reducible] def ItH(gs gl gc gm:Nat)(K:CaT)(s:Sch)(Al:Option Addr)(cl:Nat)(l:List Smp)(m:Int)(c:CaV)(S:List HE):List HE :=
 .blk gs 226 (schE s)::.blk gl 227 [.slice Al l.length cl]::.blk gc 75 [.pointer (some ⟨K.g,0,none⟩)]::.blk gm 3 [.int .i64 m]::K.HC c S
theorem it_split(gs gl gc gm:Nat)(K:CaT)(s:Sch)(Al:Option Addr)(cl:Nat)(l:List Smp)(m:Int)(c:CaV)(S:List HE):Split (ItH gs gl gc gm K s Al cl l m c S) S (ItH gs gl gc gm K s Al cl l m c []):=Split.preT S (ItH gs gl gc gm K s Al cl l m c [])
theorem it_perm(x:HE)(gs gl gc gm:Nat)(K:CaT)(s:Sch)(Al:Option Addr)(cl:Nat)(l:List Smp)(m:Int)(c:CaV)(S:List HE):(x::ItH gs gl gc gm K s Al cl l m c S).Perm (ItH gs gl gc gm K s Al cl l m c (x::S)) :=
 (List.perm_middle (l₁:=ItH gs gl gc gm K s Al cl l m c []) (l₂:=S) (a:=x)).symm
theorem all_round{W H:Nat}{f:List Int}{s:Sch}{l:List Smp}{m:Int}{i j:Nat}(hi:i<sideN s.far):
  gS W H f s l m (j*sideN s.far+i)=if onTo W H f (s.x+((i:Int)-s.far)*s.step) (s.y+((j:Int)-s.far)*s.step) l l.length=true then some (costF (apTo W H f (s.x+((i:Int)-s.far)*s.step) (s.y+((j:Int)-s.far)*s.step) l l.length) m 1 2 10)else none:=by
 unfold gS plcF
 rw[pS_at hi]
attribute [local irreducible] OJ J HdJ Code.wpIn wpListIn Oper.wpIn bodyPost CallsIn Does
theorem all1_any(lp gs gl gc gm:Nat)(K:CaT)(s0:CaV)(f:List Int)(s:Sch)(Al:Option Addr)(cl:Nat)(l:List Smp)(m b:Int)(w:World)(S:List HE)(I:Nat→List HE→Prop)(D:List HE→Prop)
  (hown:Own (ItH gs gl gc gm K s Al cl l m s0 S) w) (hF:CaF K.ys f K.room) (hk0:CaOk K.ys f K.room s0 b) (hb:b≤700000000000000000)
  (hr:RoA w (blocks (ItH gs gl gc gm K s Al cl l m s0 S)) Al l.length cl 3 (flat smpE l)) (hm:l.length≤1000000) (h0:I 0 S)
  (hy:∀i S',i<(allL (wY K.ys) (hY K.ys) f s l m).length→I i S'→∀w',Own S' w'→Yields Tryz.prog lp [.agg (stpE ((allL (wY K.ys) (hY K.ys) f s l m).getD i default)).toArray] S' w' (fun v S''=>(v=.bool true∧I (i+1) S'')∨(v=.bool false∧D S''))) :
  Does Tryz.prog 228 [.func (.yield lp) #[] #[],.pointer (some ⟨gs,0,none⟩),.pointer (some ⟨gl,0,none⟩),.pointer (some ⟨gc,0,none⟩),.pointer (some ⟨gm,0,none⟩)] (ItH gs gl gc gm K s Al cl l m s0 S) w
   (fun v S'=>v=.tuple #[]∧∃s1 S1,CaOk K.ys f K.room s1 (b+1081600)∧S'=ItH gs gl gc gm K s Al cl l m s1 S1∧(I (allL (wY K.ys) (hY K.ys) f s l m).length S1∨D S1)):=by
 refine does_of Tryz.func228 rfl Tryz.ntmps228 rfl hown (fun n=>?_)
 simp only[slots]
 refine z_tas
 refine lfv rfl rfl rfl (fun w hw=>mcheck_any s Al cl l w ⟨hr.h.go hw (Split.nil _)⟩ hm) ?_
 by_cases hc:chk21 s l=0
 ·obtain⟨⟨⟨a1,a2⟩,⟨a3,a4⟩,⟨a5,a6⟩,a7,a8⟩,⟨l1,l2⟩,hl⟩:=chk21_ok hc
  have hL:allL (wY K.ys) (hY K.ys) f s l m=(allN (wY K.ys) (hY K.ys) f s l m (sideN s.far*sideN s.far)).1:=if_pos hc
  have hside:((sideN s.far:Nat):Int)=2*s.far+1:=by unfold sideN;omega
  rw[hL]at hy ⊢
  have hrd:=fun i j hi=>all_round (W:=wY K.ys) (H:=hY K.ys) (f:=f) (s:=s) (l:=l) (m:=m) (i:=i) (j:=j) hi
  generalize hsd:sideN s.far=sd at *
  rw[hc]
  refine z_tas
  refine c_loop (X:=Nat×CaV×List HE) (fun q=>q.1≤sd∧CaOk K.ys f K.room q.2.1 (b+256*((q.1*sd:Nat):Int))∧(allN (wY K.ys) (hY K.ys) f s l m (q.1*sd)).2=false∧I (allN (wY K.ys) (hY K.ys) f s l m (q.1*sd)).1.length q.2.2)
   (fun q=>[(0,.func (.yield lp) #[] #[]),(0+1,.pointer (some ⟨gs,0,none⟩)),(0+1+1,.pointer (some ⟨gl,0,none⟩)),(0+1+1+1,.pointer (some ⟨gc,0,none⟩)),(0+1+1+1+1,.pointer (some ⟨gm,0,none⟩)),(6,.int .i64 ((q.1:Int)-s.far))])
   (fun q=>ItH gs gl gc gm K s Al cl l m q.2.1 q.2.2) (fun q=>sd-q.1) (0,s0,S) ⟨by omega,by simpa using hk0,by rw[Nat.zero_mul];rfl,by rw[Nat.zero_mul];exact h0⟩ ⟨rfl,rfl,rfl,rfl,rfl,by simp[look],trivial⟩ (Sub.refl _) ?_
  rintro⟨j,s1,S1⟩ ⟨hj,hk,hok,hI⟩
  dsimp only at hj hk hok hI ⊢
  rcases Nat.lt_or_ge j sd with hlt|hge
  ·have hjs:j*sd+sd≤sd*sd:=by have:=Nat.mul_le_mul_right sd (show j+1≤sd from hlt);rw[Nat.add_mul,Nat.one_mul]at this;exact this
   have hss:sd*sd≤4225:=by have:=Nat.mul_le_mul (show sd≤65 by omega) (show sd≤65 by omega);omega
   have hsj:(j+1)*sd=j*sd+sd:=by rw[Nat.add_mul,Nat.one_mul]
   refine z_tas
   refine c_loop (X:=Nat×CaV×List HE) (fun q=>q.1≤sd∧CaOk K.ys f K.room q.2.1 (b+256*((j*sd+q.1:Nat):Int))∧(allN (wY K.ys) (hY K.ys) f s l m (j*sd+q.1)).2=false∧I (allN (wY K.ys) (hY K.ys) f s l m (j*sd+q.1)).1.length q.2.2)
    (fun q=>[(0,.func (.yield lp) #[] #[]),(0+1,.pointer (some ⟨gs,0,none⟩)),(0+1+1,.pointer (some ⟨gl,0,none⟩)),(0+1+1+1,.pointer (some ⟨gc,0,none⟩)),(0+1+1+1+1,.pointer (some ⟨gm,0,none⟩)),(6,.int .i64 ((j:Int)-s.far)),(7,.int .i64 ((q.1:Int)-s.far))])
    (fun q=>ItH gs gl gc gm K s Al cl l m q.2.1 q.2.2) (fun q=>sd-q.1) (0,s1,S1) ⟨by omega,hk,hok,hI⟩ ⟨rfl,rfl,rfl,rfl,rfl,rfl,by simp[look],trivial⟩ (Sub.refl _) ?_
   rintro⟨i,s2,S2⟩ ⟨hi,hk2,hok2,hI2⟩
   dsimp only at hi hk2 hok2 hI2 ⊢
   rcases Nat.lt_or_ge i sd with hlt2|hge2
   ·have hg:=hrd i j hlt2
    have hx:=mulB 32 4096 (a:=(i:Int)-s.far) (b:=s.step) (by omega) (by omega)
    have hy2:=mulB 32 4096 (a:=(j:Int)-s.far) (b:=s.step) (by omega) (by omega)
    have hn:=all_none (g:=gS (wY K.ys) (hY K.ys) f s l m) (p:=pS s.far) (n:=j*sd+i) hok2
    have hsm:=fun c=>all_some (g:=gS (wY K.ys) (hY K.ys) f s l m) (p:=pS s.far) (n:=j*sd+i) (c:=c) hok2
    have her:=fun c e=>all_err (g:=gS (wY K.ys) (hY K.ys) f s l m) (p:=pS s.far) (n:=j*sd+i) (c:=c) (e:=e) hok2
    have hat:=fun c=>all_at (g:=gS (wY K.ys) (hY K.ys) f s l m) (p:=pS s.far) (n:=j*sd+i) (N:=sd*sd) (c:=c) (by omega) hok2
    have hst:=fun h=>all_stop (g:=gS (wY K.ys) (hY K.ys) f s l m) (p:=pS s.far) (n:=j*sd+i+1) h (sd*sd-(j*sd+i+1))
    rw[show j*sd+i+1+(sd*sd-(j*sd+i+1))=sd*sd by omega]at hst
    have hps:pS s.far (j*sd+i)=((i:Int)-s.far,(j:Int)-s.far):=by rw[← hsd];exact pS_at (by rw[hsd];exact hlt2)
    generalize hXe:s.x+((i:Int)-s.far)*s.step=X at *
    generalize hYe:s.y+((j:Int)-s.far)*s.step=Y at *
    refine z_tas
    rw[hXe,hYe]
    refine lf rfl rfl rfl (S:=K.H s2) (fun w hw ho=>apart_t K s2 f X Y (b+256*((j*sd+i:Nat):Int)) Al cl l w ho hF hk2 (by omega) ⟨hr.h.go hw Split.au⟩ hm (by omega) (by omega) hl) ?_
    rintro v S' ⟨s3,hk3,hap⟩
    rcases hap with⟨hon,Aa,ca,rfl,rfl⟩ | ⟨hon,rfl,rfl⟩
    ·rw[if_pos hon]at hg
     have hal:=apTo_len (wY K.ys) (hY K.ys) f X Y l l.length
     generalize hd:apTo (wY K.ys) (hY K.ys) f X Y l l.length=d at *
     refine z_tas
     refine lfv rfl rfl rfl (fun w hw=>mcost_any Aa ca d m w ⟨Ro.row hw (Split.nil _) (by refine z_hs)⟩ (by omega)) ?_
     obtain⟨cc1,e1,hce⟩:∃c e,costF d m 1 2 10=(c,e):=⟨_,_,rfl⟩
     rw[hce]at hg ⊢
     dsimp only
     refine z_tas
     ·rename_i hne
      have hne':e1≠0:=by simpa using hne
      have he:=her _ _ hg hne'
      refine j_outN rfl (Sub.appT (S:=ItH gs gl gc gm K s Al cl l m s3 []) (H:=.row (.slice Aa d.length ca) 2 1 d.length (ints .i64 d)::K.HC s3 [.blk gs 226 (schE s),.blk gl 227 [.slice Al l.length cl],.blk gc 75 [.pointer (some ⟨K.g,0,none⟩)],.blk gm 3 [.int .i64 m]]) S2 Sub.au) ⟨rfl,s3,S2,hk3.mono (by omega),rfl,.inl ?_⟩
      unfold allN at hI2 ⊢
      rw[hst (by rw[he]),he]
      exact hI2
     ·rename_i hne
      obtain rfl:e1=0:=by simpa using hne
      have hsm':=hsm _ hg
      obtain⟨hat1,hat2⟩:=hat _ hg
      refine j_perm (H':=ItH gs gl gc gm K s Al cl l m s3 S2) (Sub.appT (S:=ItH gs gl gc gm K s Al cl l m s3 []) (H:=.row (.slice Aa d.length ca) 2 1 d.length (ints .i64 d)::K.HC s3 [.blk gs 226 (schE s),.blk gl 227 [.slice Al l.length cl],.blk gc 75 [.pointer (some ⟨K.g,0,none⟩)],.blk gm 3 [.int .i64 m]]) S2 Sub.au) ?_
      refine z_tas
      refine lyl rfl rfl rfl (it_split gs gl gc gm K s Al cl l m s3 S2) rfl (fun w hw ho=>by have:=hy _ S2 hat2 hI2 w ho;unfold allN at this;rw[hat1,hps]at this;exact this) ?_
      rintro v S3 (⟨rfl,hI3⟩ | ⟨rfl,hD⟩)
      ·refine j_swapT ?_
       show J _ _ _ _ _ (ItH gs gl gc gm K s Al cl l m s3 S3) _
       refine z_tas
       exact c_round (i+1,s3,S3) ⟨hlt2,hk3.mono (by dsimp only;omega),by show (allN _ _ _ _ _ _ (j*sd+i+1)).2=false;unfold allN;rw[hsm'],by show I (allN _ _ _ _ _ _ (j*sd+i+1)).1.length _;unfold allN;rw[hsm',List.length_append];exact hI3⟩ (by show sd-(i+1)<sd-i;omega) ⟨rfl,rfl,rfl,rfl,rfl,rfl,by simp[look];omega,trivial⟩ (Sub.refl _)
      ·refine j_swapT ?_
       show J _ _ _ _ _ (ItH gs gl gc gm K s Al cl l m s3 S3) _
       refine z_tas
       exact j_out0 rfl (Sub.refl _) ⟨rfl,s3,S3,hk3.mono (by omega),rfl,.inr hD⟩
    ·rw[hon,if_neg (by decide)]at hg
     refine z_tas
     exact c_round (i+1,s3,S2) ⟨hlt2,hk3.mono (by dsimp only;omega),by show (allN _ _ _ _ _ _ (j*sd+i+1)).2=false;unfold allN;rw[hn hg];exact hok2,by show I (allN _ _ _ _ _ _ (j*sd+i+1)).1.length _;unfold allN;rw[hn hg];exact hI2⟩ (by show sd-(i+1)<sd-i;omega) ⟨rfl,rfl,rfl,rfl,rfl,rfl,by simp[look];omega,trivial⟩ (Sub.appT (S:=ItH gs gl gc gm K s Al cl l m s3 []) (H:=K.HC s3 [.blk gs 226 (schE s),.blk gl 227 [.slice Al l.length cl],.blk gc 75 [.pointer (some ⟨K.g,0,none⟩)],.blk gm 3 [.int .i64 m]]) S2 Sub.au)
   ·obtain rfl:i=sd:=by omega
    refine z_tas
    refine c_round (j+1,s2,S2) ⟨hlt,by dsimp only;rw[hsj];exact hk2,by dsimp only;rw[hsj];exact hok2,by dsimp only;rw[hsj];exact hI2⟩ (by show i-(j+1)<i-j;omega) ⟨rfl,rfl,rfl,rfl,rfl,by simp[look];omega,trivial⟩ (Sub.refl _)
  ·obtain rfl:j=sd:=by omega
   have hss:j*j≤4225:=by have:=Nat.mul_le_mul (show j≤65 by omega) (show j≤65 by omega);omega
   refine z_tas
   exact j_outN rfl (Sub.refl _) ⟨rfl,s1,S1,hk.mono (by omega),rfl,.inl hI⟩
 ·have hL:allL (wY K.ys) (hY K.ys) f s l m=[]:=if_neg hc
  rw[hL]at hy ⊢
  refine z_tas
  exact j_out0 rfl (Sub.refl _) ⟨rfl,s0,S,hk0.mono (by omega),rfl,.inl h0⟩
theorem cbTo_in{L:List Stp}(h:∀i,i<L.length→((-32≤(L.getD i default).i∧(L.getD i default).i≤32)∧(-32≤(L.getD i default).k∧(L.getD i default).k≤32))):∀n,n≤L.length→(-32≤(cbTo L n).i∧(cbTo L n).i≤32)∧(-32≤(cbTo L n).k∧(cbTo L n).k≤32)
 | 0,_=>by simp[cbTo]
 | n+1,hn=>by
  have h1:=cbTo_in h n (by omega)
  have h2:=h n (by omega)
  rw[cbTo]
  split
  ·exact h2
  ·exact h1
theorem all21_any(g:Nat)(s:Sch)(Al:Option Addr)(n cl:Nat)(m:Int)(w:World):
  Does Tryz.prog 177 [.pointer (some ⟨g,0,none⟩),.agg (schE s).toArray,.slice Al n cl,.int .i64 m] [] w
   (fun v S'=>∃gs gl gc gm,v=.func (.func 228) #[] #[.pointer (some ⟨gs,0,none⟩),.pointer (some ⟨gl,0,none⟩),.pointer (some ⟨gc,0,none⟩),.pointer (some ⟨gm,0,none⟩)] ∧
    S'=[.blk gs 226 (schE s),.blk gl 227 [.slice Al n cl],.blk gc 75 [.pointer (some ⟨g,0,none⟩)],.blk gm 3 [.int .i64 m]]):=by
 refine does_of Tryz.func177 rfl Tryz.ntmps177 rfl ⟨by simp,.nil⟩ (fun _=>?_)
 simp only[slots]
 refine z_tas
 exact j_out1 rfl rfl Sub.au ⟨_,_,_,_,rfl,rfl⟩
theorem Split.push1{H S R:List HE}(y:HE)(h:Split H S R):Split (y::H) S (y::R):=by
 induction h with
 | nil H=>exact .nil _
 | cons h _ ih=>exact .cons (.there y h) ih
theorem c_allsG{n N:Nat}{ds:List Deferred}{w0:World}{W:Nat→Prop}{σ:List (Nat×Value)}{H:List HE}{Q:Exit→Act→World→Prop}{g:Operand}{ps:Array Tmp}{assign body:Code}{gs gl gc gm:Nat}{K:CaT}{s0:CaV}{f:List Int}{s:Sch}{Al:Option Addr}{cl:Nat}{l:List Smp}{m b:Int}{S R:List HE}(I:Nat→List HE→Prop)(D:Code→List HE→Prop)
  (hx:ev σ g=some (.func (.func 228) #[] #[.pointer (some ⟨gs,0,none⟩),.pointer (some ⟨gl,0,none⟩),.pointer (some ⟨gc,0,none⟩),.pointer (some ⟨gm,0,none⟩)])) (hs:Split H (ItH gs gl gc gm K s Al cl l m s0 S) R)
  (hF:CaF K.ys f K.room) (hk0:CaOk K.ys f K.room s0 b) (hb:b≤700000000000000000) (hr:∀x y w1,St w0 W (x::y::H) w1→Ro w1 (blocks (x::ItH gs gl gc gm K s Al cl l m s0 S)) 3 (.slice Al l.length cl) l.length (flat smpE l)) (hm:l.length≤1000000) (h0:I 0 S)
  (hy:∀lp i S1,i<(allL (wY K.ys) (hY K.ys) f s l m).length→I i S1→∀w1,Own (.loop lp N σ ps assign body .ready none::S1) w1→Yields Tryz.prog lp [.agg (stpE ((allL (wY K.ys) (hY K.ys) f s l m).getD i default)).toArray] (.loop lp N σ ps assign body .ready none::S1) w1
   (fun v S2=>(v=.bool true∧∃S3,S2=.loop lp N σ ps assign body .ready none::S3∧I (i+1) S3)∨(v=.bool false∧∃c S3,S2=.loop lp N σ ps assign body .done (some c)::S3∧D c S3)))
  (hn:∀d s1 S1,CaOk K.ys f K.room s1 (b+1081600)→I (allL (wY K.ys) (hY K.ys) f s l m).length S1→J N (mk d::ds) w0 W σ (K.HC s1 S1++.obj d (.deferred (some []))::R) (Q .normal))
  (hd:∀d c s1 S1,CaOk K.ys f K.room s1 (b+1081600)→D c S1→J N (mk d::ds) w0 W σ (K.HC s1 S1++.obj d (.deferred (some []))::R) (c.wpIn Fence.wide n Tryz.prog Q)):J N ds w0 W σ H ((Code.rangeFunc g ps assign body).wpIn Fence.wide n Tryz.prog Q):=by
 refine c_range (Rp:=fun d lp pend S1=>∃s1 S2,S1=ItH gs gl gc gm K s Al cl l m s1 S2∧CaOk K.ys f K.room s1 (b+1081600)∧((pend=none∧I (allL (wY K.ys) (hY K.ys) f s l m).length S2)∨∃c,pend=some c∧D c S2)) hx hs (fun d lp w1 LE hLE hw ho=>?_) ?_
 ·have hp:=it_perm LE gs gl gc gm K s Al cl l m s0 S
  have hr1:Ro w1 (blocks (LE::ItH gs gl gc gm K s Al cl l m s0 S)) 3 (.slice Al l.length cl) l.length (flat smpE l):=hr _ _ w1 hw
  rw[blocks_perm hp]at hr1
  refine Does.conv (all1_any lp gs gl gc gm K s0 f s Al cl l m b w1 (LE::S) (fun i S'=>∃S1,S'=LE::S1∧I i S1) (fun S'=>∃c S1,S'=.loop lp N σ ps assign body .done (some c)::S1∧D c S1) (ho.perm hp) hF hk0 hb ⟨hr1⟩ hm ⟨S,rfl,h0⟩ ?_) hp.symm ?_
  ·rintro i S' hi ⟨S1,rfl,hI⟩ w2 ho2
   subst hLE
   exact hy lp i S1 hi hI w2 ho2
  ·rintro v S' ⟨-,s1,S1,hk1,rfl,⟨S2,rfl,hI⟩ | ⟨c,S2,rfl,hD⟩⟩
   ·exact⟨_,(it_perm _ gs gl gc gm K s Al cl l m s1 S2).symm,.ready,none,_,by rw[hLE],by simp,s1,S2,rfl,hk1,.inl ⟨rfl,hI⟩⟩
   ·exact⟨_,(it_perm _ gs gl gc gm K s Al cl l m s1 S2).symm,.done,some c,_,rfl,by simp,s1,S2,rfl,hk1,.inr ⟨c,rfl,hD⟩⟩
 ·rintro d lp pend S1 ⟨s1,S2,rfl,hk1,⟨rfl,hI⟩ | ⟨c,rfl,hD⟩⟩
  ·exact⟨fun _=>j_perm (Sub.skip (Sub.skip (Sub.skip (Sub.skip (Sub.refl _) _) _) _) _) (hn d s1 S2 hk1 hI),fun c h=>by cases h⟩
  ·exact⟨fun h=>(by cases h),fun c' h=>(by injection h with h;subst h;exact j_perm (Sub.skip (Sub.skip (Sub.skip (Sub.skip (Sub.refl _) _) _) _) _) (hd d c s1 S2 hk1 hD))⟩
theorem c_alls{n N:Nat}{ds:List Deferred}{w0:World}{W:Nat→Prop}{σ:List (Nat×Value)}{H:List HE}{Q:Exit→Act→World→Prop}{g:Operand}{ps:Array Tmp}{assign body:Code}{gs gl gc gm:Nat}{K:CaT}{s0:CaV}{f:List Int}{s:Sch}{Al:Option Addr}{cl:Nat}{l:List Smp}{m b:Int}{S R:List HE}(I:Nat→List HE→Prop)(D:Code→List HE→Prop)
  (hx:ev σ g=some (.func (.func 228) #[] #[.pointer (some ⟨gs,0,none⟩),.pointer (some ⟨gl,0,none⟩),.pointer (some ⟨gc,0,none⟩),.pointer (some ⟨gm,0,none⟩)])) (hs:Split H (ItH gs gl gc gm K s Al cl l m s0 S) R)
  (hF:CaF K.ys f K.room) (hk0:CaOk K.ys f K.room s0 b) (hb:b≤700000000000000000) (hr:Ro w0 W 3 (.slice Al l.length cl) l.length (flat smpE l)) (hm:l.length≤1000000) (h0:I 0 S)
  (hy:∀lp i S1,i<(allL (wY K.ys) (hY K.ys) f s l m).length→I i S1→∀w1,Own (.loop lp N σ ps assign body .ready none::S1) w1→Yields Tryz.prog lp [.agg (stpE ((allL (wY K.ys) (hY K.ys) f s l m).getD i default)).toArray] (.loop lp N σ ps assign body .ready none::S1) w1
   (fun v S2=>(v=.bool true∧∃S3,S2=.loop lp N σ ps assign body .ready none::S3∧I (i+1) S3)∨(v=.bool false∧∃c S3,S2=.loop lp N σ ps assign body .done (some c)::S3∧D c S3)))
  (hn:∀d s1 S1,CaOk K.ys f K.room s1 (b+1081600)→I (allL (wY K.ys) (hY K.ys) f s l m).length S1→J N (mk d::ds) w0 W σ (K.HC s1 S1++.obj d (.deferred (some []))::R) (Q .normal))
  (hd:∀d c s1 S1,CaOk K.ys f K.room s1 (b+1081600)→D c S1→J N (mk d::ds) w0 W σ (K.HC s1 S1++.obj d (.deferred (some []))::R) (c.wpIn Fence.wide n Tryz.prog Q)):J N ds w0 W σ H ((Code.rangeFunc g ps assign body).wpIn Fence.wide n Tryz.prog Q) :=
 c_allsG I D hx hs hF hk0 hb (fun x y w1 hw=>hr.go hw (.cons (.here _ _) (hs.push1 y))) hm h0 hy hn hd
theorem mbest_t(K:CaT)(s0:CaV)(f:List Int)(s:Sch)(Al:Option Addr)(cl:Nat)(l:List Smp)(m away b:Int)(w:World)(hown:Own (K.H s0) w)(hF:CaF K.ys f K.room)(hk0:CaOk K.ys f K.room s0 b)(hb:b≤600000000000000000)
  (hr:RoA w (blocks (K.H s0)) Al l.length cl 3 (flat smpE l)) (hm:l.length≤1000000) :
  Does Tryz.prog 129 [.pointer (some ⟨K.g,0,none⟩),.agg (schE s).toArray,.slice Al l.length cl,.int .i64 m,.int .i64 away] (K.H s0) w
   (fun v S'=>∃s',CaOk K.ys f K.room s' (b+2163200)∧v=.tuple #[.agg (stpE (cbTo (allL (wY K.ys) (hY K.ys) f s l m) (allL (wY K.ys) (hY K.ys) f s l m).length)).toArray,.int .i64 (secTo (allL (wY K.ys) (hY K.ys) f s l m) (cbTo (allL (wY K.ys) (hY K.ys) f s l m) (allL (wY K.ys) (hY K.ys) f s l m).length) away (allL (wY K.ys) (hY K.ys) f s l m).length),.int .i64 (allL (wY K.ys) (hY K.ys) f s l m).length]∧S'=K.H s'):=by
 have hall:=fun i hi=>allL_in (W:=wY K.ys) (H:=hY K.ys) (f:=f) (s:=s) (l:=l) (m:=m) (i:=i) hi
 have hlen:=allL_len (wY K.ys) (hY K.ys) f s l m
 have hcb:=cbTo_in (fun i hi=>⟨(hall i hi).1,(hall i hi).2.1⟩)
 refine does_ofM Tryz.func129 rfl Tryz.ntmps129 rfl hown (fun n=>?_)
 simp only[slots]
 refine z_tas
 rename_i b6 b9 b10 b13 b14
 refine lf rfl rfl rfl (S:=[]) (fun w hw ho=>all21_any K.g s Al l.length cl m w) ?_
 rintro v S' ⟨gs,gl,gc,gm,rfl,rfl⟩
 refine z_tas
 refine c_alls (K:=K) (s0:=s0) (s:=s) (m:=m) (S:=[.blk b13 230 [.int .i64 0,.int .i64 0,.int .i64 (-1)],.blk b14 3 [.int .i64 0]]) (fun i S=>S=[.blk b13 230 (stpE (cbTo (allL (wY K.ys) (hY K.ys) f s l m) i)),.blk b14 3 [.int .i64 i]]) (fun _ _=>False) rfl Split.au hF hk0 (by omega) hr.h hm rfl ?_ ?_ ?_
 ·rintro lp i S1 hi rfl w1 ho
  have hx:=hall i hi
  have e:=cbTo.eq_2 (allL (wY K.ys) (hY K.ys) f s l m) i
  dsimp only at hx
  generalize (allL (wY K.ys) (hY K.ys) f s l m).getD i default=x at *
  generalize hgc:cbTo (allL (wY K.ys) (hY K.ys) f s l m) i=cb at *
  refine yields_of (N:=67) ho rfl (by simp) (fun n=>?_)
  simp only[over]
  refine z_tas
  refine c_beg ?_
  refine z_tas
  ·refine c_rnH (S':=[_,.blk b13 230 (stpE (cbTo (allL (wY K.ys) (hY K.ys) f s l m) (i+1))),.blk b14 3 [.int .i64 ((i+1:Nat):Int)]]) ?_ (.inl ⟨rfl,_,rfl,rfl⟩)
   rw[e,if_pos (.inl (by assumption)),show ((i+1:Nat):Int)=(i:Int)+1 by omega]
   exact Sub.au
  ·refine c_rnH (S':=[_,.blk b13 230 (stpE (cbTo (allL (wY K.ys) (hY K.ys) f s l m) (i+1))),.blk b14 3 [.int .i64 ((i+1:Nat):Int)]]) ?_ (.inl ⟨rfl,_,rfl,rfl⟩)
   rw[e,if_pos (.inr (by assumption)),show ((i+1:Nat):Int)=(i:Int)+1 by omega]
   exact Sub.au
  ·refine c_rnH (S':=[_,.blk b13 230 (stpE (cbTo (allL (wY K.ys) (hY K.ys) f s l m) (i+1))),.blk b14 3 [.int .i64 ((i+1:Nat):Int)]]) ?_ (.inl ⟨rfl,_,rfl,rfl⟩)
   rw[e,if_neg (by omega),show ((i+1:Nat):Int)=(i:Int)+1 by omega]
   exact Sub.au
 ·rintro d s1 S1 hk1 rfl
  have hbest:=hcb _ (Nat.le_refl _)
  obtain⟨best,hbe⟩:∃x,cbTo (allL (wY K.ys) (hY K.ys) f s l m) (allL (wY K.ys) (hY K.ys) f s l m).length=x:=⟨_,rfl⟩
  rw[hbe]at hbest ⊢
  refine z_tas
  rename_i b16
  refine lf rfl rfl rfl (S:=[]) (fun w hw ho=>all21_any K.g s Al l.length cl m w) ?_
  rintro v S' ⟨gs2,gl2,gc2,gm2,rfl,rfl⟩
  refine z_tas
  refine c_alls (K:=K) (s0:=s1) (s:=s) (m:=m) (S:=[.blk b13 230 (stpE best),.blk b14 3 [.int .i64 (allL (wY K.ys) (hY K.ys) f s l m).length],.blk b9 3 [.int .i64 away],.blk b16 2 [.int .i64 (-1)]]) (fun i S=>S=[.blk b13 230 (stpE best),.blk b14 3 [.int .i64 (allL (wY K.ys) (hY K.ys) f s l m).length],.blk b9 3 [.int .i64 away],.blk b16 2 [.int .i64 (secTo (allL (wY K.ys) (hY K.ys) f s l m) best away i)]]) (fun _ _=>False) rfl Split.au hF hk1 (by omega) hr.h hm rfl ?_ ?_ ?_
  ·rintro lp i S1 hi rfl w1 ho
   have hx:=hall i hi
   have e:=secTo.eq_2 (allL (wY K.ys) (hY K.ys) f s l m) best away i
   dsimp only at hx
   generalize (allL (wY K.ys) (hY K.ys) f s l m).getD i default=x at *
   generalize hgs:secTo (allL (wY K.ys) (hY K.ys) f s l m) best away i=sc at *
   have hlp:(0:Int)<(allL (wY K.ys) (hY K.ys) f s l m).length:=by omega
   have hfc:=far_cv x best away
   generalize farB x best away=fr at *
   refine yields_of (N:=67) ho rfl (by simp) (fun n=>?_)
   simp only[over]
   refine z_tas
   refine c_beg ?_
   refine z_tas
   all_goals
    refine c_rnH (S':=[_,.blk b13 230 (stpE best),.blk b14 3 [.int .i64 (allL (wY K.ys) (hY K.ys) f s l m).length],.blk b9 3 [.int .i64 away],.blk b16 2 [.int .i64 (secTo (allL (wY K.ys) (hY K.ys) f s l m) best away (i+1))]]) ?_ (.inl ⟨rfl,_,rfl,rfl⟩)
    first
    | (rw[e,if_pos ⟨by assumption,by omega⟩];exact Sub.au)
    | (rw[e,if_neg (by rintro⟨h1,h2⟩;first|omega|contradiction)];exact Sub.au)
  ·rintro d2 s2 S2 hk2 rfl
   refine z_tas
   refine c_dvL [.blk b13 230 (stpE best),.blk b14 3 [.int .i64 (allL (wY K.ys) (hY K.ys) f s l m).length],.blk b16 2 [.int .i64 (secTo (allL (wY K.ys) (hY K.ys) f s l m) best away (allL (wY K.ys) (hY K.ys) f s l m).length)]] (0::1::2::3::4::5::[]) Sub.au ?_
   intro _
   refine z_govG
   refine j_outMS (Ds:=[d2,d]) (S':=K.H s2) (S2:=K.HC s2 [.blk b10 230 (stpE best)]) ?_ ?_ ?_
   ·show Sub (K.HC s2 [.blk b10 230 (stpE best),.obj d2 (.deferred (some [])),.obj d (.deferred (some []))]) _
    exact Sub.au
   ·exact Sub.au
   ·refine z_rk
    exact⟨s2,hk2.mono (by omega),rfl,rfl⟩
  ·rintro d2 c s2 S2 hk2 h
   exact h.elim
 ·rintro d c s1 S1 hk1 h
  exact h.elim
end Go.Proofs.YthajpemlpmlefaaGreat
namespace Go.Proofs.YthajpemlpmlefaaGreat
open Go.RowKit
theorem one_perm(x b:HE)(S:List HE):(x::b::S).Perm (b::x::S):=List.Perm.swap _ _ _
def RoTo(w0:World)(W:Nat→Prop)(w1:World)(W1:Nat→Prop):Prop:=∀size u m xs,Ro w0 W size u m xs→Ro w1 W1 size u m xs
attribute [local irreducible] OJ J HdJ Code.wpIn wpListIn Oper.wpIn bodyPost CallsIn Does
section
variable {n N:Nat} {ds:List Deferred} {w0:World} {W:Nat→Prop} {σ:List (Nat×Value)} {H:List HE} {Q:Exit→Act→World→Prop} {g:Operand} {ps:Array Tmp} {assign body:Code} {gs:Nat} {s:Sch} {S R:List HE}
end
def tab(g:Nat→Int):Nat→List Int
 | 0=>[]
 | i+1=>tab g i++[g i]
theorem tab_len(g:Nat→Int):∀n,(tab g n).length=n
 | 0=>rfl
 | n+1=>by rw[tab,List.length_append,tab_len g n];rfl
theorem tab_get(g:Nat→Int){i:Nat}: ∀{n:Nat},i<n→(tab g n).getD i 0=g i
 | n+1,h=>by
  rw[tab]
  rcases Nat.lt_or_ge i n with h1|h1
  ·rw[List.getD_eq_getElem?_getD,List.getElem?_append_left (by rw[tab_len];exact h1),← List.getD_eq_getElem?_getD,tab_get g h1]
  ·obtain rfl:i=n:=by omega
   rw[List.getD_eq_getElem?_getD,List.getElem?_append_right (by rw[tab_len];exact Nat.le_refl _),tab_len,Nat.sub_self]
   rfl
end Go.Proofs.YthajpemlpmlefaaGreat
namespace Go.Proofs.YthajpemlpmlefaaGreat
open Go.RowKit
def prt(g:Nat→Int)(N i:Nat):List Int:=tab g i++List.replicate (N-i) 0
theorem prt_len(g:Nat→Int){N i:Nat}(h:i≤N):(prt g N i).length=N:=by
 unfold prt
 rw[List.length_append,tab_len,List.length_replicate]
 omega
theorem prt_zero(g:Nat→Int)(N:Nat):prt g N 0=List.replicate N 0:=rfl
theorem prt_all(g:Nat→Int)(N:Nat):prt g N N=tab g N:=by unfold prt;rw[Nat.sub_self];simp
theorem prt_set(g:Nat→Int){N i:Nat}(h:i<N):(prt g N i).set i (g i)=prt g N (i+1):=by
 unfold prt
 rw[List.set_append_right _ _ (by rw[tab_len];exact Nat.le_refl _),tab_len,Nat.sub_self,tab,List.append_assoc]
 congr 1
 rw[show N-i=(N-(i+1))+1 by omega,List.replicate_succ]
 rfl
instance (priority:=60) {P:Program}{w0:World}{W:Nat→Prop}{H:List HE}(x y:Operand)(t e b q m c sz bs j r r':Nat)(a:Int)(z:Value)(k:IntKind)[hu:Und P t (.slice e)][hI:Inf P e sz bs z][ha:LitI a j][hm:NMul j sz r][hr:NAdd q r r']:MS P w0 W H (.indexAddr t x y) [.slice (some ⟨b,q,none⟩) m c,.int k a] (.pointer (some ⟨b,r',none⟩)) (j<m):=by
 have h0:MS P w0 W H (.indexAddr t x y) [.slice (some ⟨b,q,none⟩) m c,.int k (j:Int)] (.pointer (some ⟨b,r',none⟩)) (j<m):=inferInstance
 rw[ha.h]
 exact h0
structure Grd where
 w:Int
 h:Int
 x:Int
 y:Int
 st:Int
 p:List Int
@[reducible] def grE(g:Grd)(A:Option Addr)(c:Nat):List Value:=[.int .i64 g.w,.int .i64 g.h,.int .i64 g.x,.int .i64 g.y,.int .i64 g.st,.slice A g.p.length c]
@[reducible] def grN:List Value:=[.int .i64 0,.int .i64 0,.int .i64 0,.int .i64 0,.int .i64 0,.slice none 0 0]
def sumL(l:List Int):Nat→Int
 | 0=>0
 | i+1=>sumL l i+l.getD i 0
def Pos30(l:List Int):Prop:=∀i,i<l.length→0≤l.getD i 0∧l.getD i 0≤1073741824
theorem sumL_in{l:List Int}{B:Int}(h:∀i,i<l.length→0≤l.getD i 0∧l.getD i 0≤B):∀n,n≤l.length→0≤sumL l n∧sumL l n≤B*(n:Int)
 | 0,_=>by simp[sumL]
 | n+1,hn=>by
  have ih:=sumL_in h n (by omega)
  have h1:=h n (by omega)
  have e:B*((n+1:Nat):Int)=B*(n:Int)+B:=by push_cast;rw[Int.mul_add,Int.mul_one]
  rw[sumL,e]
  omega
theorem sumL_ge{l:List Int}{B:Int}(h:∀i,i<l.length→0≤l.getD i 0∧l.getD i 0≤B){i:Nat}: ∀n,n≤l.length→i<n→l.getD i 0≤sumL l n
 | n+1,hn,hi=>by
  have h0:=(sumL_in h n (by omega)).1
  have h1:=h n (by omega)
  rcases Nat.lt_or_ge i n with h2|h2
  ·have:=sumL_ge h n (by omega) h2
   rw[sumL]
   omega
  ·obtain rfl:i=n:=by omega
   rw[sumL]
   omega
def wsTo(p l:List Int):Nat→Int
 | 0=>0
 | i+1=>wsTo p l i+p.getD i 0*l.getD i 0
def mostTo(l:List Int):Nat→Int
 | 0=>0
 | i+1=>max (mostTo l i) (l.getD i 0)
def Wt(l:List Int):Prop:=∀i,i<l.length→0≤l.getD i 0∧l.getD i 0≤65536
theorem mul_in{a b A B:Int}(ha:0≤a∧a≤A)(hb:0≤b∧b≤B):0≤a*b∧a*b≤A*B :=
 ⟨Int.mul_nonneg ha.1 hb.1,Int.mul_le_mul ha.2 hb.2 hb.1 (by omega)⟩
theorem ws_in{p l:List Int}(hp:Pos30 p)(hl:Wt l)(he:l.length=p.length):∀n,n≤p.length→0≤wsTo p l n∧wsTo p l n≤70368744177664*(n:Int)
 | 0,_=>by simp[wsTo]
 | n+1,hn=>by
  have ih:=ws_in hp hl he n (by omega)
  have h1:=mul_in (hp n (by omega)) (hl n (by omega))
  rw[wsTo]
  push_cast
  omega
theorem ws_ge{p l:List Int}(hp:Pos30 p)(hl:Wt l)(he:l.length=p.length){i:Nat}: ∀n,n≤p.length→i<n→p.getD i 0*l.getD i 0≤wsTo p l n
 | n+1,hn,hi=>by
  have h0:=(ws_in hp hl he n (by omega)).1
  have h1:=mul_in (hp n (by omega)) (hl n (by omega))
  rw[wsTo]
  rcases Nat.lt_or_ge i n with h2|h2
  ·have:=ws_ge hp hl he n (by omega) h2
   omega
  ·obtain rfl:i=n:=by omega
   omega
theorem most_in{l:List Int}(hl:Wt l):∀n,n≤l.length→0≤mostTo l n∧mostTo l n≤65536
 | 0,_=>by simp[mostTo]
 | n+1,hn=>by
  have ih:=most_in hl n (by omega)
  have h1:=hl n (by omega)
  rw[mostTo]
  omega
def wgh(p l:List Int)(z:Int)(i:Nat):Int:=p.getD i 0*l.getD i 0*1073741824/z
def wghL(p l:List Int):List Int:=tab (wgh p l (wsTo p l p.length)) p.length
theorem wgh_in{p l:List Int}(hp:Pos30 p)(hl:Wt l)(he:l.length=p.length)(hz:0<wsTo p l p.length){i:Nat}(hi:i<p.length):0≤wgh p l (wsTo p l p.length) i∧wgh p l (wsTo p l p.length) i≤1073741824:=by
 have h1:=mul_in (hp i hi) (hl i (by omega))
 have h2:=ws_ge hp hl he p.length (Nat.le_refl _) hi
 unfold wgh
 generalize p.getD i 0*l.getD i 0=a at *
 generalize wsTo p l p.length=z at *
 refine⟨Int.ediv_nonneg (by omega) (by omega),?_⟩
 have:a*1073741824≤1073741824*z:=by omega
 exact Int.ediv_le_of_le_mul hz this
theorem wgh_sum{p l:List Int}{z:Int}(hz:0<z):∀n,sumL (tab (wgh p l z) n) n*z≤wsTo p l n*1073741824∧wsTo p l n*1073741824≤sumL (tab (wgh p l z) n) n*z+(z-1)*n
 | 0=>by simp[sumL,wsTo]
 | n+1=>by
  obtain⟨i1,i2⟩:=wgh_sum (p:=p) (l:=l) hz n
  have e:∀m,m≤n→sumL (tab (wgh p l z) (n+1)) m=sumL (tab (wgh p l z) n) m:=by
   intro m
   induction m with
   | zero=>intro _;rfl
   | succ m ih =>
    intro hm
    rw[sumL,sumL,ih (by omega),tab_get _ (by omega),tab_get _ (by omega)]
  rw[sumL,e n (Nat.le_refl _),tab_get _ (Nat.lt_succ_self n),wsTo]
  have h1:=Int.mul_ediv_add_emod (p.getD n 0*l.getD n 0*1073741824) z
  have h2:=Int.emod_nonneg (p.getD n 0*l.getD n 0*1073741824) (by omega:z≠0)
  have h3:=Int.emod_lt_of_pos (p.getD n 0*l.getD n 0*1073741824) hz
  have eq:wgh p l z n=p.getD n 0*l.getD n 0*1073741824/z:=rfl
  rw[← eq]at h1
  generalize p.getD n 0*l.getD n 0*1073741824%z=r at *
  rw[Int.add_mul,Int.add_mul]
  have e2:(z-1)*((n+1:Nat):Int)=(z-1)*(n:Int)+(z-1):=by push_cast;rw[Int.mul_add,Int.mul_one]
  have e3:z*wgh p l z n=wgh p l z n*z:=Int.mul_comm _ _
  rw[e2]
  generalize (z-1)*(n:Int)=a at *
  generalize sumL (tab (wgh p l z) n) n*z=b at *
  generalize wgh p l z n*z=c at *
  omega
def GrR(g:Grd)(v:Value)(S:List HE):Prop:=∃A c,v=.agg (grE g A c).toArray∧S=[.row (.slice A g.p.length c) 2 1 g.p.length (ints .i64 g.p)]
def sidesOk(w h st:Int):Prop:=(1≤w∧w≤64)∧(1≤h∧h≤64)∧16≤st∧st≤4096
instance (w h st:Int):Decidable (sidesOk w h st):=by unfold sidesOk;infer_instance
def evenL(n:Nat):List Int:=tab (fun _=>1073741824/(n:Int)) n
def evenG(w h x y st:Int):Grd:=⟨w,h,x,y,st,evenL (w*h).toNat⟩
attribute [local irreducible] OJ J HdJ Code.wpIn wpListIn Oper.wpIn bodyPost CallsIn Does
instance glen_cv(w h x y st:Int)(A:Option Addr)(m c:Nat):CV Tryz.prog 68 [.agg #[.int .i64 w,.int .i64 h,.int .i64 x,.int .i64 y,.int .i64 st,.slice A m c]] (.int .i64 (w*h)) (InR .i64 (w*h)):=⟨fun hc w0=>by
 refine does_of Tryz.func68 rfl Tryz.ntmps68 rfl ⟨by simp,.nil⟩ (fun n=>?_)
 simp only[slots]
 refine z_tas
 exact j_out1 rfl rfl (.nil _) ⟨rfl,rfl⟩⟩
theorem even_any(w h x y st:Int)(w0:World)(hok:sidesOk w h st):Does Tryz.prog 181 [.int .i64 w,.int .i64 h,.int .i64 x,.int .i64 y,.int .i64 st] [] w0
  (fun v S'=>∃u,v=.tuple #[u,.int .i64 0]∧GrR (evenG w h x y st) u S'):=by
 obtain⟨⟨w1,w2⟩,⟨h1,h2⟩,s1,s2⟩:=hok
 obtain⟨N,hN⟩:∃N:Nat,(w*h).toNat=N:=⟨_,rfl⟩
 have hm:=mul_in (a:=w) (b:=h) (A:=64) (B:=64) (by omega) (by omega)
 have hp:0<w*h:=Int.mul_pos (by omega) (by omega)
 have hN2:w*h=(N:Int):=by omega
 have hN3:0<N∧N≤4096:=by omega
 have iM:∀w0 W H t u a b,MS Tryz.prog w0 W H (.binOp .mul t a b u) [.int .i64 w,.int .i64 h] (.int .i64 (N:Int)) True:=fun _ _ _ _ _ _ _=>msM inferInstance (by show (-9223372036854775808:Int)≤_∧_≤(9223372036854775807:Int);omega) (by rw[hN2])
 unfold evenG evenL
 rw[hN]
 have hset:=fun i (hi:i<N)=>prt_set (fun _=>1073741824/(N:Int)) hi
 have hlen:=fun i (hi:i≤N)=>prt_len (fun _=>1073741824/(N:Int)) hi
 have hq:0≤1073741824/(N:Int)∧1073741824/(N:Int)≤1073741824:=⟨Int.ediv_nonneg (by omega) (by omega),Int.ediv_le_self _ (by omega)⟩
 refine does_of Tryz.func181 rfl Tryz.ntmps181 rfl ⟨by simp,.nil⟩ (fun n=>?_)
 simp only[slots]
 clear hm hp hN
 refine z_tas
 rename_i b10 b12 _ _ _ _ _ _ bp
 refine c_loop (X:=Nat) (fun i=>i≤N) (fun i=>[(0,.int .i64 w),(1,.int .i64 h),(10,.pointer (some ⟨b10,0,none⟩)),(12,.pointer (some ⟨b12,0,none⟩)),(50,.int .i64 N),(51,.int .i64 i)])
  (fun i=>[.row (.slice (some ⟨bp,0,none⟩) N N) 2 1 N (ints .i64 (prt (fun _=>1073741824/(N:Int)) N i)),.blk b12 63 [.int .i64 w,.int .i64 h,.int .i64 x,.int .i64 y,.int .i64 st,.slice (some ⟨bp,0,none⟩) N N],.blk b10 63 grN]) (fun i=>N-i) 0 (Nat.zero_le _) ⟨rfl,rfl,rfl,rfl,rfl,rfl,trivial⟩ (by show Sub [.row (.slice (some ⟨bp,0,none⟩) N N) 2 1 N (ints .i64 (List.replicate N 0)),_,_] _;exact Sub.au) ?_
 intro i hi
 have hlen1:=hlen i hi
 rcases Nat.lt_or_ge i N with h3|h3
 ·have hset1:=hset i h3
  refine z_tas
  refine c_round (i+1) h3 (by show N-(i+1)<N-i;omega) ⟨rfl,rfl,rfl,rfl,rfl,by simp[look],trivial⟩ ?_
  rw[← hset1]
  exact Sub.au
 ·obtain rfl:i=N:=by omega
  rw[prt_all]
  have htl:=tab_len (fun _=>1073741824/(i:Int)) i
  refine z_tas
  refine j_outK (S':=[.row (.slice (some ⟨bp,0,none⟩) i i) 2 1 i (ints .i64 (tab (fun _=>1073741824/(i:Int)) i))]) Sub.au ?_
  refine z_rk
  refine⟨_,rfl,some ⟨bp,0,none⟩,i,?_,?_⟩
  ·show _=Value.agg #[_,_,_,_,_,.slice _ (tab (fun _=>1073741824/(i:Int)) i).length _]
   rw[htl]
  ·show _=[HE.row (.slice _ (tab (fun _=>1073741824/(i:Int)) i).length _) _ _ (tab (fun _=>1073741824/(i:Int)) i).length _]
   rw[htl]
theorem even_bad(w h x y st:Int)(w0:World)(hok:¬sidesOk w h st):Does Tryz.prog 181 [.int .i64 w,.int .i64 h,.int .i64 x,.int .i64 y,.int .i64 st] [] w0
  (fun v S'=>v=.tuple #[.agg (grN).toArray,.int .i64 2]∧S'=[]):=by
 refine does_of Tryz.func181 rfl Tryz.ntmps181 rfl ⟨by simp,.nil⟩ (fun n=>?_)
 simp only[slots]
 unfold sidesOk at hok
 refine z_tas
 all_goals first
  | (refine z_ro;exact⟨rfl,rfl⟩)
  | (exfalso;omega)
end Go.Proofs.YthajpemlpmlefaaGreat
