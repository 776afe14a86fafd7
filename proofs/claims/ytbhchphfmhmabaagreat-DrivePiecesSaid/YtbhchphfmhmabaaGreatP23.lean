import Derived.Test.YtbhchphfmhmabaaGreatP21
import Derived.Test.YtbhchphfmhmabaaGreatP22
set_option maxHeartbeats 512000000
set_option maxRecDepth 4000
set_option linter.unusedVariables false
set_option linter.unusedSimpArgs false
namespace Go.Proofs.YtbhchphfmhmabaaGreat
open Go.RowKit _root_.Go.Proofs.Tryz
theorem aYl(t u:TypeId)(x y:Operand)(a b c d:Int)(ht:t=266):PV prog (.binOp .eql t x y u) [.agg #[.int .i64 a,.int .u64 b],.agg #[.int .i64 c,.int .u64 d]] (.bool (a==c&&b==d)) True:=⟨by
 subst ht;rintro _ ρ ⟨dst,op',ty,pos,aft,gd⟩ rfl h w;obtain⟨h1,h2⟩:=sK h;have u1:=underlying2;have a1:=Tryz.isAgg2;have z1:=Tryz.sizeOf2;have u2:=underlying76;have a2:=Tryz.isAgg76;have z2:=Tryz.sizeOf76;have hS:prog.underlying 266=some (.struct (prog.fieldsOf 266)):=by kernel_rfl
 have hp:prog.stoodInHeld 266=false:=by kernel_rfl
 have hm:prog.eqGuardType prog.depth 266=false:=by kernel_rfl
 simp only[execOp,h1,h2,Sem.run_bind,run_eqGuard_agg w _ _ _ _ _ _ hm,Result.andThen_ok];rw[run_eql_struct,show (10000:Nat)=9999+1 from rfl,run_equalIn_agg w 9999 266 _ _ hS hp];simp only[Program.fieldsOf,underlying266]
 go_simp
 by_cases h1:a=c<;>by_cases h2:b=d<;>simp[h1,h2]⟩
instance (u:TypeId)(x y:Operand)(a b c d:Int):PV prog (.binOp .eql 266 x y u) [.agg #[.int .i64 a,.int .u64 b],.agg #[.int .i64 c,.int .u64 d]] (.bool (a==c&&b==d)) True:=aYl _ u x y a b c d rfl
instance {w0:World}{W:Nat→Prop}{H:List HE}(u:TypeId)(x y:Operand)(a b c d:Int):MS prog w0 W H (.binOp .eql 266 x y u) [.agg #[.int .i64 a,.int .u64 b],.agg #[.int .i64 c,.int .u64 d]] (.bool (a==c&&b==d)) True:=⟨by intro _ F n N ds σ dd ty pos aft gd K Q _ hv hdN h;exact dW aE rfl hdN (fun a w ha _=>aMn (o:=⟨some dd,_,ty,pos,aft,gd⟩) hv trivial a.eval (fun x _ u hu=>ha.eval hu) w) h⟩
def wC(a b:Int):Int:=if a<b then -1 else if a=b then 0 else 1
attribute [local irreducible] OJ J bM Code.wpIn wpListIn Oper.wpIn bodyPost CallsIn aF
instance wcmp_cv(a b:Int):CV prog 191 [.agg (cA a).toArray,.agg (cA b).toArray] (.int .i64 (wC a b)) True:=⟨fun _ w=>by have h1:a=18446744073709551616*(a/18446744073709551616)+a%18446744073709551616:=oo;have h2:b=18446744073709551616*(b/18446744073709551616)+b%18446744073709551616:=oo;have h3:0≤a%18446744073709551616∧a%18446744073709551616<18446744073709551616:=oo;have h4:0≤b%18446744073709551616∧b%18446744073709551616<18446744073709551616:=oo;refine aJ func191 rfl ntmps191 rfl ⟨aE,.nil⟩ (fun n=>?_);simp only[aG];unfold wC;generalize a/18446744073709551616=p at *;generalize a%18446744073709551616=q at *;generalize b/18446744073709551616=r at *;generalize b%18446744073709551616=s at *;refine aB;all_goals exact aM rfl rfl (.nil _) ⟨congrArg (Value.int .i64) (by split<;>(try split)<;>omega),rfl⟩⟩
def wB(best second num den:Int):Bool:=decide (0≤best∧0≤num∧1≤den∧(second<0∨best*num<second*den))
theorem aC4(a b:Int):0<wC a b↔b<a:=by unfold wC;split<;>(try split)<;>omega
theorem aS8(best second num den:Int)(h1:bG .i64 best)(h2:bG .i64 second)(h3:bG .i64 num)(h4:bG .i64 den)(w:World):
  aF prog 152 [.int .i64 best,.int .i64 second,.int .i64 num,.int .i64 den] [] w (fun v S'=>v=.bool (wB best second num den)∧S'=[]):=by
 refine aJ func152 rfl ntmps152 rfl ⟨aE,.nil⟩ (fun n=>?_);simp only[aG];have hp:=aC4 (second*den) (best*num);have key:wB best second num den=true↔(0≤best∧0≤num∧1≤den∧(second<0∨best*num<second*den)):=by simp[wB]
 have iC:CV prog 191 [.agg (cA (second*den)).toArray,.agg (cA (best*num)).toArray] (.int .i64 (wC (second*den) (best*num))) True:=wcmp_cv _ _;generalize wB best second num den=r at *;refine aB;all_goals exact aM rfl rfl (.nil _) ⟨congrArg Value.bool (by rw[Bool.eq_iff_iff,key];simp only[decide_eq_true_eq,Bool.false_eq_true,false_iff,true_iff];omega),rfl⟩
instance far_cv(a b:jW)(away:Int):CV prog 190 [.agg (gN a).toArray,.agg (gN b).toArray,.int .i64 away] (.bool (aF8 a b away)) (((-32≤a.i∧a.i≤32)∧(-32≤a.k∧a.k≤32))∧(-32≤b.i∧b.i≤32)∧(-32≤b.k∧b.k≤32)):=⟨fun hc w=>by refine aJ func190 rfl ntmps190 rfl ⟨aE,.nil⟩ (fun n=>?_);simp only[aG];refine aB;exact aM rfl rfl (.nil _) ⟨rfl,rfl⟩⟩
def ApR(W H:Nat)(f:List Int)(X Y:Int)(l:List cK)(T:List HE)(v:Value)(S':List HE):Prop :=
 (sO W H f X Y l l.length=true∧∃A c,v=.tuple #[.slice A (mB W H f X Y l l.length).length c,.bool true]∧S'=.row (.slice A (mB W H f X Y l l.length).length c) 2 1 (mB W H f X Y l l.length).length (aD .i64 (mB W H f X Y l l.length))::T) ∨
 (sO W H f X Y l l.length=false∧v=.tuple #[.slice none 0 0,.bool false]∧S'=T)
theorem aM2{W H:Nat}{f:List Int}{X Y:Int}{l:List cK}{i:Nat}: ∀{n:Nat},i<n→jK W H f (X+(l.getD i default).dx) (Y+(l.getD i default).dy)≠0→sO W H f X Y l n=false
 | n+1,hi,h=>by
  rw[sO];rcases Nat.lt_or_ge i n with h1|h1
  ·rw[aM2 h1 h];rfl
  ·obtain rfl:i=n:=oo;have:(jK W H f (X+(l.getD i default).dx) (Y+(l.getD i default).dy)==0)=false:=by simpa using h
   rw[this,Bool.and_false]
theorem aX4{W H:Nat}{f:List Int}{X Y:Int}{l:List cK}{n:Nat}(h:sO W H f X Y l n=true)(h2:jK W H f (X+(l.getD n default).dx) (Y+(l.getD n default).dy)=0):sO W H f X Y l (n+1)=true:=by rw[sO,h,h2];rfl
theorem aQ1(K:eH)(s:dK)(f:List Int)(X Y b:Int)(Al:Option Addr)(cl:Nat)(l:List cK)(w:World)(hown:aZ (K.H s) w)(hF:jS K.ys f K.room)(h:cO K.ys f K.room s b)(hb:b≤800000000000000000)
  (hr:bP w (bB (K.H s)) Al l.length cl 3 (aO bV l)) (hm:l.length≤1000000) (hXb : -2199023255552≤X∧X≤2199023255552) (hYb : -2199023255552≤Y∧Y≤2199023255552) (hl:∀j,j<l.length→rN (l.getD j default)) :
  aF prog 233 [.pointer (some ⟨K.g,0,none⟩),.agg #[.int .i64 X,.int .i64 Y],.slice Al l.length cl] (K.H s) w
   (fun v S'=>∃s',cO K.ys f K.room s' (b+4*(l.length:Int))∧ApR (wY K.ys) (hY K.ys) f X Y l (K.H s') v S'):=by
 refine aJ func233 rfl ntmps233 rfl hown (fun n=>?_);simp only[aG];refine dH (e:=2) (size:=1) ?_;refine aB;rename_i b4;refine cG (X:=Nat×dK×Option Addr×Nat) (fun q=>q.1≤l.length∧cO K.ys f K.room q.2.1 (b+4*(q.1:Int))∧sO (wY K.ys) (hY K.ys) f X Y l q.1=true)
  (fun q=>[(0,.pointer (some ⟨K.g,0,none⟩)),(4,.pointer (some ⟨b4,0,none⟩)),(8,.slice q.2.2.1 (mB (wY K.ys) (hY K.ys) f X Y l q.1).length q.2.2.2),(13,.slice Al l.length cl),(14,.int .i64 l.length),(15,.int .i64 q.1)])
  (fun q=>K.HC q.2.1 [.blk b4 33 [.int .i64 X,.int .i64 Y],.row (.slice q.2.2.1 (mB (wY K.ys) (hY K.ys) f X Y l q.1).length q.2.2.2) 2 1 (mB (wY K.ys) (hY K.ys) f X Y l q.1).length (aD .i64 (mB (wY K.ys) (hY K.ys) f X Y l q.1))]) (fun q=>l.length-q.1) (0,s,none,0) ⟨oo,by simpa using h,rfl⟩ ⟨rfl,rfl,rfl,rfl,rfl,rfl,trivial⟩ (by simp only[mB,aD,List.map_nil,List.length_nil];exact aA.au) ?_
 rintro⟨i,s1,A1,c1⟩ ⟨hi,hk,hon⟩;dsimp only at hi hk hon ⊢;have hal:=aEf (wY K.ys) (hY K.ys) f X Y l i;rcases Nat.lt_or_ge i l.length with hlt|hge
 ·obtain⟨bL,oL,rfl,hL⟩:=hr.at_ (by omega:0<l.length);have hsx:=hl i hlt;unfold rN at hsx;have hz:=aKk hF.good.1 (W:=wY K.ys) (H:=hY K.ys) (X+(l.getD i default).dx) (Y+(l.getD i default).dy);have hno:=aM2 (W:=wY K.ys) (H:=hY K.ys) (f:=f) (X:=X) (Y:=Y) (l:=l) hlt;have hyes:=aX4 hon;have hap:mB (wY K.ys) (hY K.ys) f X Y l (i+1)=mB (wY K.ys) (hY K.ys) f X Y l i++[oV (wY K.ys) (hY K.ys) f (X+(l.getD i default).dx) (Y+(l.getD i default).dy)-(l.getD i default).z]:=rfl;refine aB;refine lf rfl rfl rfl (S:=K.H s1) (fun w hw ho=>aFl K s1 f (X+(l.getD i default).dx) (Y+(l.getD i default).dy) (b+4*(i:Int)) w ho hF hk oo) ?_;rintro v S' ⟨s',rfl,k1,rfl⟩;generalize oV (wY K.ys) (hY K.ys) f (X+(l.getD i default).dx) (Y+(l.getD i default).dy)=z at *;generalize jK (wY K.ys) (hY K.ys) f (X+(l.getD i default).dx) (Y+(l.getD i default).dy)=e at *;generalize hga:mB (wY K.ys) (hY K.ys) f X Y l i=ga at *;refine aB
  ·refine cY rfl rfl (S':=K.H s') rfl aA.au ⟨s',k1.mono oo,.inr ⟨hno oa,rfl,rfl⟩⟩
  ·rename_i he _ A2 c2;refine aR (i+1,s',A2,c2) ⟨hlt,k1.mono (by dsimp only;omega),hyes (Classical.not_not.1 he)⟩ (by show l.length-(i+1)<l.length-i;omega) ⟨rfl,rfl,by simp only[hap];rfl,rfl,rfl,by simp[aI],trivial⟩ ?_;simp only[hap];exact aA.au
 ·obtain rfl:i=l.length:=oo;refine aB;exact cY rfl rfl rfl aA.au ⟨s1,hk,.inl ⟨hon,A1,c1,rfl,rfl⟩⟩
end Go.Proofs.YtbhchphfmhmabaaGreat
namespace Go.Proofs.YtbhchphfmhmabaaGreat
open Go.RowKit _root_.Go.Proofs.Tryz
theorem aC.tailT:∀T:List HE,aC T T []
 | []=>.nil _
 | x::T=>.cons (.here _ _) (aC.tailT T)
theorem aC.preT(T:List HE):∀l:List HE,aC (l++T) T l
 | []=>aC.tailT T
 | y::l=>by
  have key:∀{H S R:List HE} (y:HE),aC H S R→aC (y::H) S (y::R):=by
   intro H S R y hsp
   induction hsp with
   | nil H=>exact .nil _
   | cons h _ ih=>exact .cons (.there y h) ih
  exact key y (aC.preT T l)
theorem aCr{N:Nat}{ds:List Deferred}{w0:World}{W:Nat→Prop}{σ:List (Nat×Value)}{S R:List HE}{q:Act→World→Prop}(h:J N ds w0 W σ (R++S) q):J N ds w0 W σ (S++R) q:=fun a w ha hw=>h a w ha (hw.perm List.perm_append_comm)
theorem aBq{S T:List HE}(hp:S.Perm T):bB S=bB T:=by funext b;apply propext;exact⟨fun ⟨x,hx,hb⟩=>⟨x,hp.mem_iff.1 hx,hb⟩,fun ⟨x,hx,hb⟩=>⟨x,hp.mem_iff.2 hx,hb⟩⟩
theorem aA.appT{S H:List HE}(T:List HE)(h:aA S H):aA (S++T) (H++T):=by
 have key:∀{H S R:List HE} (x:HE),aP H x R→aP (H++T) x (R++T):=by
  intro H S R x h
  induction h with
  | here x r=>exact .here _ _
  | there y _ ih=>exact .there y ih
 induction h with
 | nil H =>
  induction H with
  | nil=>exact aA.refl _
  | cons y H ih=>exact aA.skip ih y
 | cons h _ ih=>exact .cons (key (S:=[]) _ h) ih
@[reducible] def jU(gs gl gc gm:Nat)(K:eH)(s:dV)(Al:Option Addr)(cl:Nat)(l:List cK)(m:Int)(c:dK)(S:List HE):List HE :=
 .blk gs 252 (lU s)::.blk gl 253 [.slice Al l.length cl]::.blk gc 115 [.pointer (some ⟨K.g,0,none⟩)]::.blk gm 3 [.int .i64 m]::K.HC c S
theorem aUu(gs gl gc gm:Nat)(K:eH)(s:dV)(Al:Option Addr)(cl:Nat)(l:List cK)(m:Int)(c:dK)(S:List HE):aC (jU gs gl gc gm K s Al cl l m c S) S (jU gs gl gc gm K s Al cl l m c []):=aC.preT S (jU gs gl gc gm K s Al cl l m c [])
theorem aFp(x:HE)(gs gl gc gm:Nat)(K:eH)(s:dV)(Al:Option Addr)(cl:Nat)(l:List cK)(m:Int)(c:dK)(S:List HE):(x::jU gs gl gc gm K s Al cl l m c S).Perm (jU gs gl gc gm K s Al cl l m c (x::S)) :=
 (List.perm_middle (l₁:=jU gs gl gc gm K s Al cl l m c []) (l₂:=S) (a:=x)).symm
theorem aPu{W H:Nat}{f:List Int}{s:dV}{l:List cK}{m:Int}{i j:Nat}(hi:i<bR s.far):
  gS W H f s l m (j*bR s.far+i)=if sO W H f (s.x+((i:Int)-s.far)*s.step) (s.y+((j:Int)-s.far)*s.step) l l.length=true then some (oT (mB W H f (s.x+((i:Int)-s.far)*s.step) (s.y+((j:Int)-s.far)*s.step) l l.length) m 1 2 10)else none:=by
 unfold gS aGk;rw[aGg hi]
attribute [local irreducible] OJ J bM Code.wpIn wpListIn Oper.wpIn bodyPost CallsIn aF
theorem aPq(lp gs gl gc gm:Nat)(K:eH)(s0:dK)(f:List Int)(s:dV)(Al:Option Addr)(cl:Nat)(l:List cK)(m b:Int)(w:World)(S:List HE)(I:Nat→List HE→Prop)(D:List HE→Prop)
  (hown:aZ (jU gs gl gc gm K s Al cl l m s0 S) w) (hF:jS K.ys f K.room) (hk0:cO K.ys f K.room s0 b) (hb:b≤700000000000000000)
  (hr:bP w (bB (jU gs gl gc gm K s Al cl l m s0 S)) Al l.length cl 3 (aO bV l)) (hm:l.length≤1000000) (h0:I 0 S)
  (hy:∀i S',i<(aT (wY K.ys) (hY K.ys) f s l m).length→I i S'→∀w',aZ S' w'→qK prog lp [.agg (gN ((aT (wY K.ys) (hY K.ys) f s l m).getD i default)).toArray] S' w' (fun v S''=>(v=.bool true∧I (i+1) S'')∨(v=.bool false∧D S''))) :
  aF prog 232 [.func (.yield lp) #[] #[],.pointer (some ⟨gs,0,none⟩),.pointer (some ⟨gl,0,none⟩),.pointer (some ⟨gc,0,none⟩),.pointer (some ⟨gm,0,none⟩)] (jU gs gl gc gm K s Al cl l m s0 S) w
   (fun v S'=>v=.tuple #[]∧∃s1 S1,cO K.ys f K.room s1 (b+1081600)∧S'=jU gs gl gc gm K s Al cl l m s1 S1∧(I (aT (wY K.ys) (hY K.ys) f s l m).length S1∨D S1)):=by
 refine aJ func232 rfl ntmps232 rfl hown (fun n=>?_);simp only[aG];refine aB;refine bU rfl rfl rfl (fun w hw=>aLi s Al cl l w ⟨hr.h.go hw (aC.nil _)⟩ hm) ?_;by_cases hc:lP s l=0
 ·obtain⟨⟨⟨a1,a2⟩,⟨a3,a4⟩,⟨a5,a6⟩,a7,a8⟩,⟨l1,l2⟩,hl⟩:=aC1 hc;have hL:aT (wY K.ys) (hY K.ys) f s l m=(mQ (wY K.ys) (hY K.ys) f s l m (bR s.far*bR s.far)).1:=if_pos hc;have hside:((bR s.far:Nat):Int)=2*s.far+1:=by unfold bR;omega
  rw[hL]at hy ⊢;have hrd:=fun i j hi=>aPu (W:=wY K.ys) (H:=hY K.ys) (f:=f) (s:=s) (l:=l) (m:=m) (i:=i) (j:=j) hi;generalize hsd:bR s.far=sd at *;rw[hc];refine aB;refine cG (X:=Nat×dK×List HE) (fun q=>q.1≤sd∧cO K.ys f K.room q.2.1 (b+256*((q.1*sd:Nat):Int))∧(mQ (wY K.ys) (hY K.ys) f s l m (q.1*sd)).2=false∧I (mQ (wY K.ys) (hY K.ys) f s l m (q.1*sd)).1.length q.2.2)
   (fun q=>[(0,.func (.yield lp) #[] #[]),(0+1,.pointer (some ⟨gs,0,none⟩)),(0+1+1,.pointer (some ⟨gl,0,none⟩)),(0+1+1+1,.pointer (some ⟨gc,0,none⟩)),(0+1+1+1+1,.pointer (some ⟨gm,0,none⟩)),(6,.int .i64 ((q.1:Int)-s.far))])
   (fun q=>jU gs gl gc gm K s Al cl l m q.2.1 q.2.2) (fun q=>sd-q.1) (0,s0,S) ⟨oo,by simpa using hk0,by rw[Nat.zero_mul];rfl,by rw[Nat.zero_mul];exact h0⟩ ⟨rfl,rfl,rfl,rfl,rfl,by simp[aI],trivial⟩ (aA.refl _) ?_
  rintro⟨j,s1,S1⟩ ⟨hj,hk,hok,hI⟩;dsimp only at hj hk hok hI ⊢;rcases Nat.lt_or_ge j sd with hlt|hge
  ·have hjs:j*sd+sd≤sd*sd:=by have:=Nat.mul_le_mul_right sd (show j+1≤sd from hlt);rw[Nat.add_mul,Nat.one_mul]at this;exact this
   have hss:sd*sd≤4225:=by have:=Nat.mul_le_mul (show sd≤65 by omega) (show sd≤65 by omega);omega
   have hsj:(j+1)*sd=j*sd+sd:=by rw[Nat.add_mul,Nat.one_mul]
   refine aB;refine cG (X:=Nat×dK×List HE) (fun q=>q.1≤sd∧cO K.ys f K.room q.2.1 (b+256*((j*sd+q.1:Nat):Int))∧(mQ (wY K.ys) (hY K.ys) f s l m (j*sd+q.1)).2=false∧I (mQ (wY K.ys) (hY K.ys) f s l m (j*sd+q.1)).1.length q.2.2)
    (fun q=>[(0,.func (.yield lp) #[] #[]),(0+1,.pointer (some ⟨gs,0,none⟩)),(0+1+1,.pointer (some ⟨gl,0,none⟩)),(0+1+1+1,.pointer (some ⟨gc,0,none⟩)),(0+1+1+1+1,.pointer (some ⟨gm,0,none⟩)),(6,.int .i64 ((j:Int)-s.far)),(7,.int .i64 ((q.1:Int)-s.far))])
    (fun q=>jU gs gl gc gm K s Al cl l m q.2.1 q.2.2) (fun q=>sd-q.1) (0,s1,S1) ⟨oo,hk,hok,hI⟩ ⟨rfl,rfl,rfl,rfl,rfl,rfl,by simp[aI],trivial⟩ (aA.refl _) ?_
   rintro⟨i,s2,S2⟩ ⟨hi,hk2,hok2,hI2⟩;dsimp only at hi hk2 hok2 hI2 ⊢;rcases Nat.lt_or_ge i sd with hlt2|hge2
   ·have hg:=hrd i j hlt2;have hx:=gY 32 4096 (a:=(i:Int)-s.far) (b:=s.step) oo oo;have hy2:=gY 32 4096 (a:=(j:Int)-s.far) (b:=s.step) oo oo;have hn:=aPt (g:=gS (wY K.ys) (hY K.ys) f s l m) (p:=pS s.far) (n:=j*sd+i) hok2;have hsm:=fun c=>aId (g:=gS (wY K.ys) (hY K.ys) f s l m) (p:=pS s.far) (n:=j*sd+i) (c:=c) hok2;have her:=fun c e=>aPs (g:=gS (wY K.ys) (hY K.ys) f s l m) (p:=pS s.far) (n:=j*sd+i) (c:=c) (e:=e) hok2;have hat:=fun c=>aPr (g:=gS (wY K.ys) (hY K.ys) f s l m) (p:=pS s.far) (n:=j*sd+i) (N:=sd*sd) (c:=c) oo hok2;have hst:=fun h=>aIe (g:=gS (wY K.ys) (hY K.ys) f s l m) (p:=pS s.far) (n:=j*sd+i+1) h (sd*sd-(j*sd+i+1));rw[show j*sd+i+1+(sd*sd-(j*sd+i+1))=sd*sd by omega]at hst;have hps:pS s.far (j*sd+i)=((i:Int)-s.far,(j:Int)-s.far):=by rw[← hsd];exact aGg (by rw[hsd];exact hlt2)
    generalize hXe:s.x+((i:Int)-s.far)*s.step=X at *;generalize hYe:s.y+((j:Int)-s.far)*s.step=Y at *;refine aB;rw[hXe,hYe];refine lf rfl rfl rfl (S:=K.H s2) (fun w hw ho=>aQ1 K s2 f X Y (b+256*((j*sd+i:Nat):Int)) Al cl l w ho hF hk2 oo ⟨hr.h.go hw aC.au⟩ hm oo oo hl) ?_;rintro v S' ⟨s3,hk3,hap⟩;rcases hap with⟨hon,Aa,ca,rfl,rfl⟩ | ⟨hon,rfl,rfl⟩
    ·rw[if_pos hon]at hg;have hal:=aEf (wY K.ys) (hY K.ys) f X Y l l.length;generalize hd:mB (wY K.ys) (hY K.ys) f X Y l l.length=d at *;refine aB;refine bU rfl rfl rfl (fun w hw=>aW2 Aa ca d m w ⟨Ro.row hw (aC.nil _) (by refine cF)⟩ oo) ?_;obtain⟨cc1,e1,hce⟩:∃c e,oT d m 1 2 10=(c,e):=⟨_,_,rfl⟩;rw[hce]at hg ⊢;dsimp only;refine aB
     ·rename_i hne;have hne':e1≠0:=by simpa using hne
      have he:=her _ _ hg hne';refine nN rfl (aA.appT (S:=jU gs gl gc gm K s Al cl l m s3 []) (H:=.row (.slice Aa d.length ca) 2 1 d.length (aD .i64 d)::K.HC s3 [.blk gs 252 (lU s),.blk gl 253 [.slice Al l.length cl],.blk gc 115 [.pointer (some ⟨K.g,0,none⟩)],.blk gm 3 [.int .i64 m]]) S2 aA.au) ⟨rfl,s3,S2,hk3.mono oo,rfl,.inl ?_⟩;unfold mQ at hI2 ⊢;rw[hst (by rw[he]),he];exact hI2
     ·rename_i hne;obtain rfl:e1=0:=by simpa using hne
      have hsm':=hsm _ hg;obtain⟨hat1,hat2⟩:=hat _ hg;refine jP (H':=jU gs gl gc gm K s Al cl l m s3 S2) (aA.appT (S:=jU gs gl gc gm K s Al cl l m s3 []) (H:=.row (.slice Aa d.length ca) 2 1 d.length (aD .i64 d)::K.HC s3 [.blk gs 252 (lU s),.blk gl 253 [.slice Al l.length cl],.blk gc 115 [.pointer (some ⟨K.g,0,none⟩)],.blk gm 3 [.int .i64 m]]) S2 aA.au) ?_;refine aB;refine lyl rfl rfl rfl (aUu gs gl gc gm K s Al cl l m s3 S2) rfl (fun w hw ho=>by have:=hy _ S2 hat2 hI2 w ho;unfold mQ at this;rw[hat1,hps]at this;exact this) ?_;rintro v S3 (⟨rfl,hI3⟩ | ⟨rfl,hD⟩)
      ·refine aCr ?_;show J _ _ _ _ _ (jU gs gl gc gm K s Al cl l m s3 S3) _;refine aB;exact aR (i+1,s3,S3) ⟨hlt2,hk3.mono (by dsimp only;omega),by show (mQ _ _ _ _ _ _ (j*sd+i+1)).2=false;unfold mQ;rw[hsm'],by show I (mQ _ _ _ _ _ _ (j*sd+i+1)).1.length _;unfold mQ;rw[hsm',List.length_append];exact hI3⟩ (by show sd-(i+1)<sd-i;omega) ⟨rfl,rfl,rfl,rfl,rfl,rfl,by simp[aI];omega,trivial⟩ (aA.refl _)
      ·refine aCr ?_;show J _ _ _ _ _ (jU gs gl gc gm K s Al cl l m s3 S3) _;refine aB;exact aFt rfl (aA.refl _) ⟨rfl,s3,S3,hk3.mono oo,rfl,.inr hD⟩
    ·rw[hon,if_neg od]at hg;refine aB;exact aR (i+1,s3,S2) ⟨hlt2,hk3.mono (by dsimp only;omega),by show (mQ _ _ _ _ _ _ (j*sd+i+1)).2=false;unfold mQ;rw[hn hg];exact hok2,by show I (mQ _ _ _ _ _ _ (j*sd+i+1)).1.length _;unfold mQ;rw[hn hg];exact hI2⟩ (by show sd-(i+1)<sd-i;omega) ⟨rfl,rfl,rfl,rfl,rfl,rfl,by simp[aI];omega,trivial⟩ (aA.appT (S:=jU gs gl gc gm K s Al cl l m s3 []) (H:=K.HC s3 [.blk gs 252 (lU s),.blk gl 253 [.slice Al l.length cl],.blk gc 115 [.pointer (some ⟨K.g,0,none⟩)],.blk gm 3 [.int .i64 m]]) S2 aA.au)
   ·obtain rfl:i=sd:=oo;refine aB;refine aR (j+1,s2,S2) ⟨hlt,by dsimp only;rw[hsj];exact hk2,by dsimp only;rw[hsj];exact hok2,by dsimp only;rw[hsj];exact hI2⟩ (by show i-(j+1)<i-j;omega) ⟨rfl,rfl,rfl,rfl,rfl,by simp[aI];omega,trivial⟩ (aA.refl _)
  ·obtain rfl:j=sd:=oo;have hss:j*j≤4225:=by have:=Nat.mul_le_mul (show j≤65 by omega) (show j≤65 by omega);omega
   refine aB;exact nN rfl (aA.refl _) ⟨rfl,s1,S1,hk.mono oo,rfl,.inl hI⟩
 ·have hL:aT (wY K.ys) (hY K.ys) f s l m=[]:=if_neg hc;rw[hL]at hy ⊢;refine aB;exact aFt rfl (aA.refl _) ⟨rfl,s0,S,hk0.mono oo,rfl,.inl h0⟩
theorem aIz{L:List jW}(h:∀i,i<L.length→((-32≤(L.getD i default).i∧(L.getD i default).i≤32)∧(-32≤(L.getD i default).k∧(L.getD i default).k≤32))):∀n,n≤L.length→(-32≤(eW L n).i∧(eW L n).i≤32)∧(-32≤(eW L n).k∧(eW L n).k≤32)
 | 0,_=>by simp[eW]
 | n+1,hn=>by
  have h1:=aIz h n oo;have h2:=h n oo;rw[eW];split
  ·exact h2
  ·exact h1
theorem aEb(g:Nat)(s:dV)(Al:Option Addr)(n cl:Nat)(m:Int)(w:World):
  aF prog 189 [.pointer (some ⟨g,0,none⟩),.agg (lU s).toArray,.slice Al n cl,.int .i64 m] [] w
   (fun v S'=>∃gs gl gc gm,v=.func (.func 232) #[] #[.pointer (some ⟨gs,0,none⟩),.pointer (some ⟨gl,0,none⟩),.pointer (some ⟨gc,0,none⟩),.pointer (some ⟨gm,0,none⟩)] ∧
    S'=[.blk gs 252 (lU s),.blk gl 253 [.slice Al n cl],.blk gc 115 [.pointer (some ⟨g,0,none⟩)],.blk gm 3 [.int .i64 m]]):=by
 refine aJ func189 rfl ntmps189 rfl ⟨aE,.nil⟩ (fun _=>?_);simp only[aG];refine aB;exact aM rfl rfl aA.au ⟨_,_,_,_,rfl,rfl⟩
theorem aC.push1{H S R:List HE}(y:HE)(h:aC H S R):aC (y::H) S (y::R):=by
 induction h with
 | nil H=>exact .nil _
 | cons h _ ih=>exact .cons (.there y h) ih
theorem aQx{n N:Nat}{ds:List Deferred}{w0:World}{W:Nat→Prop}{σ:List (Nat×Value)}{H:List HE}{Q:Exit→Act→World→Prop}{g:Operand}{ps:Array Tmp}{assign body:Code}{gs gl gc gm:Nat}{K:eH}{s0:dK}{f:List Int}{s:dV}{Al:Option Addr}{cl:Nat}{l:List cK}{m b:Int}{S R:List HE}(I:Nat→List HE→Prop)(D:Code→List HE→Prop)
  (hx:ev σ g=some (.func (.func 232) #[] #[.pointer (some ⟨gs,0,none⟩),.pointer (some ⟨gl,0,none⟩),.pointer (some ⟨gc,0,none⟩),.pointer (some ⟨gm,0,none⟩)])) (hs:aC H (jU gs gl gc gm K s Al cl l m s0 S) R)
  (hF:jS K.ys f K.room) (hk0:cO K.ys f K.room s0 b) (hb:b≤700000000000000000) (hr:∀x y w1,St w0 W (x::y::H) w1→Ro w1 (bB (x::jU gs gl gc gm K s Al cl l m s0 S)) 3 (.slice Al l.length cl) l.length (aO bV l)) (hm:l.length≤1000000) (h0:I 0 S)
  (hy:∀lp i S1,i<(aT (wY K.ys) (hY K.ys) f s l m).length→I i S1→∀w1,aZ (.loop lp N σ ps assign body .ready none::S1) w1→qK prog lp [.agg (gN ((aT (wY K.ys) (hY K.ys) f s l m).getD i default)).toArray] (.loop lp N σ ps assign body .ready none::S1) w1
   (fun v S2=>(v=.bool true∧∃S3,S2=.loop lp N σ ps assign body .ready none::S3∧I (i+1) S3)∨(v=.bool false∧∃c S3,S2=.loop lp N σ ps assign body .done (some c)::S3∧D c S3)))
  (hn:∀d s1 S1,cO K.ys f K.room s1 (b+1081600)→I (aT (wY K.ys) (hY K.ys) f s l m).length S1→J N (mk d::ds) w0 W σ (K.HC s1 S1++.obj d (.deferred (some []))::R) (Q .normal))
  (hd:∀d c s1 S1,cO K.ys f K.room s1 (b+1081600)→D c S1→J N (mk d::ds) w0 W σ (K.HC s1 S1++.obj d (.deferred (some []))::R) (c.wpIn Fence.wide n prog Q)):J N ds w0 W σ H ((Code.rangeFunc g ps assign body).wpIn Fence.wide n prog Q):=by
 refine aAd (Rp:=fun d lp pend S1=>∃s1 S2,S1=jU gs gl gc gm K s Al cl l m s1 S2∧cO K.ys f K.room s1 (b+1081600)∧((pend=none∧I (aT (wY K.ys) (hY K.ys) f s l m).length S2)∨∃c,pend=some c∧D c S2)) hx hs (fun d lp w1 LE hLE hw ho=>?_) ?_
 ·have hp:=aFp LE gs gl gc gm K s Al cl l m s0 S;have hr1:Ro w1 (bB (LE::jU gs gl gc gm K s Al cl l m s0 S)) 3 (.slice Al l.length cl) l.length (aO bV l):=hr _ _ w1 hw;rw[aBq hp]at hr1;refine aF.conv (aPq lp gs gl gc gm K s0 f s Al cl l m b w1 (LE::S) (fun i S'=>∃S1,S'=LE::S1∧I i S1) (fun S'=>∃c S1,S'=.loop lp N σ ps assign body .done (some c)::S1∧D c S1) (ho.perm hp) hF hk0 hb ⟨hr1⟩ hm ⟨S,rfl,h0⟩ ?_) hp.symm ?_
  ·rintro i S' hi ⟨S1,rfl,hI⟩ w2 ho2;subst hLE;exact hy lp i S1 hi hI w2 ho2
  ·rintro v S' ⟨-,s1,S1,hk1,rfl,⟨S2,rfl,hI⟩ | ⟨c,S2,rfl,hD⟩⟩
   ·exact⟨_,(aFp _ gs gl gc gm K s Al cl l m s1 S2).symm,.ready,none,_,by rw[hLE],aE,s1,S2,rfl,hk1,.inl ⟨rfl,hI⟩⟩
   ·exact⟨_,(aFp _ gs gl gc gm K s Al cl l m s1 S2).symm,.done,some c,_,rfl,aE,s1,S2,rfl,hk1,.inr ⟨c,rfl,hD⟩⟩
 ·rintro d lp pend S1 ⟨s1,S2,rfl,hk1,⟨rfl,hI⟩ | ⟨c,rfl,hD⟩⟩
  ·exact⟨fun _=>jP (aA.skip (aA.skip (aA.skip (aA.skip (aA.refl _) _) _) _) _) (hn d s1 S2 hk1 hI),fun c h=>by cases h⟩
  ·exact⟨fun h=>(by cases h),fun c' h=>(by injection h with h;subst h;exact jP (aA.skip (aA.skip (aA.skip (aA.skip (aA.refl _) _) _) _) _) (hd d c s1 S2 hk1 hD))⟩
theorem aEk{n N:Nat}{ds:List Deferred}{w0:World}{W:Nat→Prop}{σ:List (Nat×Value)}{H:List HE}{Q:Exit→Act→World→Prop}{g:Operand}{ps:Array Tmp}{assign body:Code}{gs gl gc gm:Nat}{K:eH}{s0:dK}{f:List Int}{s:dV}{Al:Option Addr}{cl:Nat}{l:List cK}{m b:Int}{S R:List HE}(I:Nat→List HE→Prop)(D:Code→List HE→Prop)
  (hx:ev σ g=some (.func (.func 232) #[] #[.pointer (some ⟨gs,0,none⟩),.pointer (some ⟨gl,0,none⟩),.pointer (some ⟨gc,0,none⟩),.pointer (some ⟨gm,0,none⟩)])) (hs:aC H (jU gs gl gc gm K s Al cl l m s0 S) R)
  (hF:jS K.ys f K.room) (hk0:cO K.ys f K.room s0 b) (hb:b≤700000000000000000) (hr:Ro w0 W 3 (.slice Al l.length cl) l.length (aO bV l)) (hm:l.length≤1000000) (h0:I 0 S)
  (hy:∀lp i S1,i<(aT (wY K.ys) (hY K.ys) f s l m).length→I i S1→∀w1,aZ (.loop lp N σ ps assign body .ready none::S1) w1→qK prog lp [.agg (gN ((aT (wY K.ys) (hY K.ys) f s l m).getD i default)).toArray] (.loop lp N σ ps assign body .ready none::S1) w1
   (fun v S2=>(v=.bool true∧∃S3,S2=.loop lp N σ ps assign body .ready none::S3∧I (i+1) S3)∨(v=.bool false∧∃c S3,S2=.loop lp N σ ps assign body .done (some c)::S3∧D c S3)))
  (hn:∀d s1 S1,cO K.ys f K.room s1 (b+1081600)→I (aT (wY K.ys) (hY K.ys) f s l m).length S1→J N (mk d::ds) w0 W σ (K.HC s1 S1++.obj d (.deferred (some []))::R) (Q .normal))
  (hd:∀d c s1 S1,cO K.ys f K.room s1 (b+1081600)→D c S1→J N (mk d::ds) w0 W σ (K.HC s1 S1++.obj d (.deferred (some []))::R) (c.wpIn Fence.wide n prog Q)):J N ds w0 W σ H ((Code.rangeFunc g ps assign body).wpIn Fence.wide n prog Q) :=
 aQx I D hx hs hF hk0 hb (fun x y w1 hw=>hr.go hw (.cons (.here _ _) (hs.push1 y))) hm h0 hy hn hd
theorem aLh(K:eH)(s0:dK)(f:List Int)(s:dV)(Al:Option Addr)(cl:Nat)(l:List cK)(m away b:Int)(w:World)(hown:aZ (K.H s0) w)(hF:jS K.ys f K.room)(hk0:cO K.ys f K.room s0 b)(hb:b≤600000000000000000)
  (hr:bP w (bB (K.H s0)) Al l.length cl 3 (aO bV l)) (hm:l.length≤1000000) :
  aF prog 151 [.pointer (some ⟨K.g,0,none⟩),.agg (lU s).toArray,.slice Al l.length cl,.int .i64 m,.int .i64 away] (K.H s0) w
   (fun v S'=>∃s',cO K.ys f K.room s' (b+2163200)∧v=.tuple #[.agg (gN (eW (aT (wY K.ys) (hY K.ys) f s l m) (aT (wY K.ys) (hY K.ys) f s l m).length)).toArray,.int .i64 (nA (aT (wY K.ys) (hY K.ys) f s l m) (eW (aT (wY K.ys) (hY K.ys) f s l m) (aT (wY K.ys) (hY K.ys) f s l m).length) away (aT (wY K.ys) (hY K.ys) f s l m).length),.int .i64 (aT (wY K.ys) (hY K.ys) f s l m).length]∧S'=K.H s'):=by
 have hall:=fun i hi=>aBm (W:=wY K.ys) (H:=hY K.ys) (f:=f) (s:=s) (l:=l) (m:=m) (i:=i) hi;have hlen:=aEd (wY K.ys) (hY K.ys) f s l m;have hcb:=aIz (fun i hi=>⟨(hall i hi).1,(hall i hi).2.1⟩);refine uR func151 rfl ntmps151 rfl hown (fun n=>?_);simp only[aG];refine aB;rename_i b6 b9 b10 b13 b14;refine lf rfl rfl rfl (S:=[]) (fun w hw ho=>aEb K.g s Al l.length cl m w) ?_;rintro v S' ⟨gs,gl,gc,gm,rfl,rfl⟩;refine aB;refine aEk (K:=K) (s0:=s0) (s:=s) (m:=m) (S:=[.blk b13 256 [.int .i64 0,.int .i64 0,.int .i64 (-1)],.blk b14 3 [.int .i64 0]]) (fun i S=>S=[.blk b13 256 (gN (eW (aT (wY K.ys) (hY K.ys) f s l m) i)),.blk b14 3 [.int .i64 i]]) (fun _ _=>False) rfl aC.au hF hk0 oo hr.h hm rfl ?_ ?_ ?_
 ·rintro lp i S1 hi rfl w1 ho;have hx:=hall i hi;have e:=eW.eq_2 (aT (wY K.ys) (hY K.ys) f s l m) i;dsimp only at hx;generalize (aT (wY K.ys) (hY K.ys) f s l m).getD i default=x at *;generalize hgc:eW (aT (wY K.ys) (hY K.ys) f s l m) i=cb at *;refine uB (N:=67) ho rfl aE (fun n=>?_);simp only[over];refine aB;refine tG ?_;refine aB
  ·refine qO (S':=[_,.blk b13 256 (gN (eW (aT (wY K.ys) (hY K.ys) f s l m) (i+1))),.blk b14 3 [.int .i64 ((i+1:Nat):Int)]]) ?_ (.inl ⟨rfl,_,rfl,rfl⟩);rw[e,if_pos (.inl oa),show ((i+1:Nat):Int)=(i:Int)+1 by omega];exact aA.au
  ·refine qO (S':=[_,.blk b13 256 (gN (eW (aT (wY K.ys) (hY K.ys) f s l m) (i+1))),.blk b14 3 [.int .i64 ((i+1:Nat):Int)]]) ?_ (.inl ⟨rfl,_,rfl,rfl⟩);rw[e,if_pos (.inr oa),show ((i+1:Nat):Int)=(i:Int)+1 by omega];exact aA.au
  ·refine qO (S':=[_,.blk b13 256 (gN (eW (aT (wY K.ys) (hY K.ys) f s l m) (i+1))),.blk b14 3 [.int .i64 ((i+1:Nat):Int)]]) ?_ (.inl ⟨rfl,_,rfl,rfl⟩);rw[e,if_neg oo,show ((i+1:Nat):Int)=(i:Int)+1 by omega];exact aA.au
 ·rintro d s1 S1 hk1 rfl;have hbest:=hcb _ (Nat.le_refl _);obtain⟨best,hbe⟩:∃x,eW (aT (wY K.ys) (hY K.ys) f s l m) (aT (wY K.ys) (hY K.ys) f s l m).length=x:=⟨_,rfl⟩;rw[hbe]at hbest ⊢;refine aB;rename_i b16;refine lf rfl rfl rfl (S:=[]) (fun w hw ho=>aEb K.g s Al l.length cl m w) ?_;rintro v S' ⟨gs2,gl2,gc2,gm2,rfl,rfl⟩;refine aB;refine aEk (K:=K) (s0:=s1) (s:=s) (m:=m) (S:=[.blk b13 256 (gN best),.blk b14 3 [.int .i64 (aT (wY K.ys) (hY K.ys) f s l m).length],.blk b9 3 [.int .i64 away],.blk b16 2 [.int .i64 (-1)]]) (fun i S=>S=[.blk b13 256 (gN best),.blk b14 3 [.int .i64 (aT (wY K.ys) (hY K.ys) f s l m).length],.blk b9 3 [.int .i64 away],.blk b16 2 [.int .i64 (nA (aT (wY K.ys) (hY K.ys) f s l m) best away i)]]) (fun _ _=>False) rfl aC.au hF hk1 oo hr.h hm rfl ?_ ?_ ?_
  ·rintro lp i S1 hi rfl w1 ho;have hx:=hall i hi;have e:=nA.eq_2 (aT (wY K.ys) (hY K.ys) f s l m) best away i;dsimp only at hx;generalize (aT (wY K.ys) (hY K.ys) f s l m).getD i default=x at *;generalize hgs:nA (aT (wY K.ys) (hY K.ys) f s l m) best away i=sc at *;have hlp:(0:Int)<(aT (wY K.ys) (hY K.ys) f s l m).length:=oo;have hfc:=far_cv x best away;generalize aF8 x best away=fr at *;refine uB (N:=67) ho rfl aE (fun n=>?_);simp only[over];refine aB;refine tG ?_;refine aB;all_goals
    refine qO (S':=[_,.blk b13 256 (gN best),.blk b14 3 [.int .i64 (aT (wY K.ys) (hY K.ys) f s l m).length],.blk b9 3 [.int .i64 away],.blk b16 2 [.int .i64 (nA (aT (wY K.ys) (hY K.ys) f s l m) best away (i+1))]]) ?_ (.inl ⟨rfl,_,rfl,rfl⟩);first
    | (rw[e,if_pos ⟨oa,oo⟩];exact aA.au)
    | (rw[e,if_neg (by rintro⟨h1,h2⟩;first|omega|contradiction)];exact aA.au)
  ·rintro d2 s2 S2 hk2 rfl;refine aB;refine fJ [.blk b13 256 (gN best),.blk b14 3 [.int .i64 (aT (wY K.ys) (hY K.ys) f s l m).length],.blk b16 2 [.int .i64 (nA (aT (wY K.ys) (hY K.ys) f s l m) best away (aT (wY K.ys) (hY K.ys) f s l m).length)]] (0::1::2::3::4::5::[]) aA.au ?_;intro _;refine gO;refine qW (Ds:=[d2,d]) (S':=K.H s2) (S2:=K.HC s2 [.blk b10 256 (gN best)]) ?_ ?_ ?_
   ·show aA (K.HC s2 [.blk b10 256 (gN best),.obj d2 (.deferred (some [])),.obj d (.deferred (some []))]) _;exact aA.au
   ·exact aA.au
   ·refine cZ;exact⟨s2,hk2.mono oo,rfl,rfl⟩
  ·rintro d2 c s2 S2 hk2 h;exact h.elim
 ·rintro d c s1 S1 hk1 h;exact h.elim
end Go.Proofs.YtbhchphfmhmabaaGreat
namespace Go.Proofs.YtbhchphfmhmabaaGreat
open Go.RowKit _root_.Go.Proofs.Tryz
theorem aM3(x b:HE)(S:List HE):(x::b::S).Perm (b::x::S):=List.Perm.swap _ _ _
def aE7(w0:World)(W:Nat→Prop)(w1:World)(W1:Nat→Prop):Prop:=∀size u m xs,Ro w0 W size u m xs→Ro w1 W1 size u m xs
attribute [local irreducible] OJ J bM Code.wpIn wpListIn Oper.wpIn bodyPost CallsIn aF
section
variable {n N:Nat} {ds:List Deferred} {w0:World} {W:Nat→Prop} {σ:List (Nat×Value)} {H:List HE} {Q:Exit→Act→World→Prop} {g:Operand} {ps:Array Tmp} {assign body:Code} {gs:Nat} {s:dV} {S R:List HE}
end
def dO(g:Nat→Int):Nat→List Int
 | 0=>[]
 | i+1=>dO g i++[g i]
theorem fQ(g:Nat→Int):∀n,(dO g n).length=n
 | 0=>rfl
 | n+1=>by rw[dO,List.length_append,fQ g n];rfl
theorem nB(g:Nat→Int){i:Nat}: ∀{n:Nat},i<n→(dO g n).getD i 0=g i
 | n+1,h=>by
  rw[dO];rcases Nat.lt_or_ge i n with h1|h1
  ·rw[List.getD_eq_getElem?_getD,List.getElem?_append_left (by rw[fQ];exact h1),← List.getD_eq_getElem?_getD,nB g h1]
  ·obtain rfl:i=n:=oo;rw[List.getD_eq_getElem?_getD,List.getElem?_append_right (by rw[fQ];exact Nat.le_refl _),fQ,Nat.sub_self];rfl
def kQ(g:Nat→Int)(N i:Nat):List Int:=dO g i++List.replicate (N-i) 0
theorem aB2(g:Nat→Int){N i:Nat}(h:i≤N):(kQ g N i).length=N:=by unfold kQ;rw[List.length_append,fQ,List.length_replicate];omega
theorem aGm(g:Nat→Int)(N:Nat):kQ g N 0=List.replicate N 0:=rfl
theorem aB1(g:Nat→Int)(N:Nat):kQ g N N=dO g N:=by unfold kQ;rw[Nat.sub_self];simp
theorem aB3(g:Nat→Int){N i:Nat}(h:i<N):(kQ g N i).set i (g i)=kQ g N (i+1):=by unfold kQ;rw[List.set_append_right _ _ (by rw[fQ];exact Nat.le_refl _),fQ,Nat.sub_self,dO,List.append_assoc];congr 1;rw[show N-i=(N-(i+1))+1 by omega,List.replicate_succ];rfl
structure bE where
 w:Int
 h:Int
 x:Int
 y:Int
 st:Int
 p:List Int
@[reducible] def aQ(g:bE)(A:Option Addr)(c:Nat):List Value:=[.int .i64 g.w,.int .i64 g.h,.int .i64 g.x,.int .i64 g.y,.int .i64 g.st,.slice A g.p.length c]
@[reducible] def jY:List Value:=[.int .i64 0,.int .i64 0,.int .i64 0,.int .i64 0,.int .i64 0,.slice none 0 0]
def aL(l:List Int):Nat→Int
 | 0=>0
 | i+1=>aL l i+l.getD i 0
def dY(l:List Int):Prop:=∀i,i<l.length→0≤l.getD i 0∧l.getD i 0≤1073741824
theorem tV{l:List Int}{B:Int}(h:∀i,i<l.length→0≤l.getD i 0∧l.getD i 0≤B):∀n,n≤l.length→0≤aL l n∧aL l n≤B*(n:Int)
 | 0,_=>by simp[aL]
 | n+1,hn=>by
  have ih:=tV h n oo;have h1:=h n oo;have e:B*((n+1:Nat):Int)=B*(n:Int)+B:=by push_cast;rw[Int.mul_add,Int.mul_one]
  rw[aL,e];omega
theorem aDl{l:List Int}{B:Int}(h:∀i,i<l.length→0≤l.getD i 0∧l.getD i 0≤B){i:Nat}: ∀n,n≤l.length→i<n→l.getD i 0≤aL l n
 | n+1,hn,hi=>by
  have h0:=(tV h n oo).1;have h1:=h n oo;rcases Nat.lt_or_ge i n with h2|h2
  ·have:=aDl h n oo h2;rw[aL];omega
  ·obtain rfl:i=n:=oo;rw[aL];omega
def cB(p l:List Int):Nat→Int
 | 0=>0
 | i+1=>cB p l i+p.getD i 0*l.getD i 0
def gI(l:List Int):Nat→Int
 | 0=>0
 | i+1=>max (gI l i) (l.getD i 0)
def Wt(l:List Int):Prop:=∀i,i<l.length→0≤l.getD i 0∧l.getD i 0≤65536
theorem cT{a b A B:Int}(ha:0≤a∧a≤A)(hb:0≤b∧b≤B):0≤a*b∧a*b≤A*B :=
 ⟨Int.mul_nonneg ha.1 hb.1,Int.mul_le_mul ha.2 hb.2 hb.1 oo⟩
theorem yK{p l:List Int}(hp:dY p)(hl:Wt l)(he:l.length=p.length):∀n,n≤p.length→0≤cB p l n∧cB p l n≤70368744177664*(n:Int)
 | 0,_=>by simp[cB]
 | n+1,hn=>by have ih:=yK hp hl he n oo;have h1:=cT (hp n oo) (hl n oo);rw[cB];push_cast;omega
theorem aDw{p l:List Int}(hp:dY p)(hl:Wt l)(he:l.length=p.length){i:Nat}: ∀n,n≤p.length→i<n→p.getD i 0*l.getD i 0≤cB p l n
 | n+1,hn,hi=>by
  have h0:=(yK hp hl he n oo).1;have h1:=cT (hp n oo) (hl n oo);rw[cB];rcases Nat.lt_or_ge i n with h2|h2
  ·have:=aDw hp hl he n oo h2;omega
  ·obtain rfl:i=n:=oo;omega
theorem zG{l:List Int}(hl:Wt l):∀n,n≤l.length→0≤gI l n∧gI l n≤65536
 | 0,_=>by simp[gI]
 | n+1,hn=>by have ih:=zG hl n oo;have h1:=hl n oo;rw[gI];omega
def kS(p l:List Int)(z:Int)(i:Nat):Int:=p.getD i 0*l.getD i 0*1073741824/z
def jC(p l:List Int):List Int:=dO (kS p l (cB p l p.length)) p.length
theorem aOm{p l:List Int}(hp:dY p)(hl:Wt l)(he:l.length=p.length)(hz:0<cB p l p.length){i:Nat}(hi:i<p.length):0≤kS p l (cB p l p.length) i∧kS p l (cB p l p.length) i≤1073741824:=by have h1:=cT (hp i hi) (hl i oo);have h2:=aDw hp hl he p.length (Nat.le_refl _) hi;unfold kS;generalize p.getD i 0*l.getD i 0=a at *;generalize cB p l p.length=z at *;refine⟨Int.ediv_nonneg oo oo,?_⟩;have:a*1073741824≤1073741824*z:=oo;exact Int.ediv_le_of_le_mul hz this
theorem aHv{p l:List Int}{z:Int}(hz:0<z):∀n,aL (dO (kS p l z) n) n*z≤cB p l n*1073741824∧cB p l n*1073741824≤aL (dO (kS p l z) n) n*z+(z-1)*n
 | 0=>by simp[aL,cB]
 | n+1=>by
  obtain⟨i1,i2⟩:=aHv (p:=p) (l:=l) hz n;have e:∀m,m≤n→aL (dO (kS p l z) (n+1)) m=aL (dO (kS p l z) n) m:=by
   intro m
   induction m with
   | zero=>intro _;rfl
   | succ m ih =>
    intro hm;rw[aL,aL,ih oo,nB _ oo,nB _ oo]
  rw[aL,e n (Nat.le_refl _),nB _ (Nat.lt_succ_self n),cB];have h1:=Int.mul_ediv_add_emod (p.getD n 0*l.getD n 0*1073741824) z;have h2:=Int.emod_nonneg (p.getD n 0*l.getD n 0*1073741824) (by omega:z≠0);have h3:=Int.emod_lt_of_pos (p.getD n 0*l.getD n 0*1073741824) hz;have eq:kS p l z n=p.getD n 0*l.getD n 0*1073741824/z:=rfl;rw[← eq]at h1;generalize p.getD n 0*l.getD n 0*1073741824%z=r at *;rw[Int.add_mul,Int.add_mul];have e2:(z-1)*((n+1:Nat):Int)=(z-1)*(n:Int)+(z-1):=by push_cast;rw[Int.mul_add,Int.mul_one]
  have e3:z*kS p l z n=kS p l z n*z:=Int.mul_comm _ _;rw[e2];generalize (z-1)*(n:Int)=a at *;generalize aL (dO (kS p l z) n) n*z=b at *;generalize kS p l z n*z=c at *;omega
def tA(g:bE)(v:Value)(S:List HE):Prop:=∃A c,v=.agg (aQ g A c).toArray∧S=[.row (.slice A g.p.length c) 2 1 g.p.length (aD .i64 g.p)]
def kC(w h st:Int):Prop:=(1≤w∧w≤64)∧(1≤h∧h≤64)∧16≤st∧st≤4096
instance (w h st:Int):Decidable (kC w h st):=by unfold kC;infer_instance
def aF4(n:Nat):List Int:=dO (fun _=>1073741824/(n:Int)) n
def aF3(w h x y st:Int):bE:=⟨w,h,x,y,st,aF4 (w*h).toNat⟩
instance glen_cv(w h x y st:Int)(A:Option Addr)(m c:Nat):CV prog 163 [.agg #[.int .i64 w,.int .i64 h,.int .i64 x,.int .i64 y,.int .i64 st,.slice A m c]] (.int .i64 (w*h)) (bG .i64 (w*h)):=⟨fun hc w0=>by refine aJ func163 rfl ntmps163 rfl ⟨aE,.nil⟩ (fun n=>?_);simp only[aG];refine aB;exact aM rfl rfl (.nil _) ⟨rfl,rfl⟩⟩
theorem aT3(w h x y st:Int)(w0:World)(hok:kC w h st):aF prog 194 [.int .i64 w,.int .i64 h,.int .i64 x,.int .i64 y,.int .i64 st] [] w0
  (fun v S'=>∃u,v=.tuple #[u,.int .i64 0]∧tA (aF3 w h x y st) u S'):=by
 obtain⟨⟨w1,w2⟩,⟨h1,h2⟩,s1,s2⟩:=hok;obtain⟨N,hN⟩:∃N:Nat,(w*h).toNat=N:=⟨_,rfl⟩;have hm:=cT (a:=w) (b:=h) (A:=64) (B:=64) oo oo;have hp:0<w*h:=Int.mul_pos oo oo;have hN2:w*h=(N:Int):=oo;have hN3:0<N∧N≤4096:=oo;have iM:∀w0 W H t u a b,MS prog w0 W H (.binOp .mul t a b u) [.int .i64 w,.int .i64 h] (.int .i64 (N:Int)) True:=fun _ _ _ _ _ _ _=>cD inferInstance (by show (-9223372036854775808:Int)≤_∧_≤(9223372036854775807:Int);omega) (by rw[hN2]);unfold aF3 aF4;rw[hN];have hset:=fun i (hi:i<N)=>aB3 (fun _=>1073741824/(N:Int)) hi;have hlen:=fun i (hi:i≤N)=>aB2 (fun _=>1073741824/(N:Int)) hi;have hq:0≤1073741824/(N:Int)∧1073741824/(N:Int)≤1073741824:=⟨Int.ediv_nonneg oo oo,Int.ediv_le_self _ oo⟩;refine aJ func194 rfl ntmps194 rfl ⟨aE,.nil⟩ (fun n=>?_);simp only[aG];clear hm hp hN;refine aB;rename_i b10 b12 _ _ _ _ _ _ bp;refine cG (X:=Nat) (fun i=>i≤N) (fun i=>[(0,.int .i64 w),(1,.int .i64 h),(10,.pointer (some ⟨b10,0,none⟩)),(12,.pointer (some ⟨b12,0,none⟩)),(50,.int .i64 N),(51,.int .i64 i)])
  (fun i=>[.row (.slice (some ⟨bp,0,none⟩) N N) 2 1 N (aD .i64 (kQ (fun _=>1073741824/(N:Int)) N i)),.blk b12 126 [.int .i64 w,.int .i64 h,.int .i64 x,.int .i64 y,.int .i64 st,.slice (some ⟨bp,0,none⟩) N N],.blk b10 126 jY]) (fun i=>N-i) 0 (Nat.zero_le _) ⟨rfl,rfl,rfl,rfl,rfl,rfl,trivial⟩ (by show aA [.row (.slice (some ⟨bp,0,none⟩) N N) 2 1 N (aD .i64 (List.replicate N 0)),_,_] _;exact aA.au) ?_
 intro i hi;have hlen1:=hlen i hi;rcases Nat.lt_or_ge i N with h3|h3
 ·have hset1:=hset i h3;refine aB;refine aR (i+1) h3 (by show N-(i+1)<N-i;omega) ⟨rfl,rfl,rfl,rfl,rfl,by simp[aI],trivial⟩ ?_;rw[← hset1];exact aA.au
 ·obtain rfl:i=N:=oo;rw[aB1];have htl:=fQ (fun _=>1073741824/(i:Int)) i;refine aB;refine eC (S':=[.row (.slice (some ⟨bp,0,none⟩) i i) 2 1 i (aD .i64 (dO (fun _=>1073741824/(i:Int)) i))]) aA.au ?_;refine cZ;refine⟨_,rfl,some ⟨bp,0,none⟩,i,?_,?_⟩
  ·show _=Value.agg #[_,_,_,_,_,.slice _ (dO (fun _=>1073741824/(i:Int)) i).length _];rw[htl]
  ·show _=[HE.row (.slice _ (dO (fun _=>1073741824/(i:Int)) i).length _) _ _ (dO (fun _=>1073741824/(i:Int)) i).length _];rw[htl]
theorem aT4(w h x y st:Int)(w0:World)(hok:¬kC w h st):aF prog 194 [.int .i64 w,.int .i64 h,.int .i64 x,.int .i64 y,.int .i64 st] [] w0
  (fun v S'=>v=.tuple #[.agg (jY).toArray,.int .i64 2]∧S'=[]):=by
 refine aJ func194 rfl ntmps194 rfl ⟨aE,.nil⟩ (fun n=>?_);simp only[aG];unfold kC at hok;refine aB;all_goals first
  | (refine bK;exact⟨rfl,rfl⟩)
  | (exfalso;omega)
