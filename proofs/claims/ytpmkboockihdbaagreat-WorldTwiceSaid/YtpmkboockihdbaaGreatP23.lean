import Derived.Test.YtpmkboockihdbaaGreatP21
import Derived.Test.YtpmkboockihdbaaGreatP22
set_option maxHeartbeats 512000000
set_option maxRecDepth 4000
set_option linter.unusedVariables false
set_option linter.unusedSimpArgs false
namespace Go.Proofs.YtpmkboockihdbaaGreat
open Go.RowKit _root_.Go.Proofs.Tryz
theorem aYx(t u:TypeId)(x y:Operand)(a b c d:Int)(ht:t=258):PV prog (.binOp .eql t x y u) [.agg #[.int .i64 a,.int .u64 b],.agg #[.int .i64 c,.int .u64 d]] (.bool (a==c&&b==d)) True:=⟨by
 subst ht;rintro _ ρ ⟨dst,op',ty,pos,aft,gd⟩ rfl h w;obtain⟨h1,h2⟩:=qZ h;have u1:=underlying2;have a1:=Tryz.isAgg2;have z1:=Tryz.sizeOf2;have u2:=underlying105;have a2:=Tryz.isAgg105;have z2:=Tryz.sizeOf105;have hS:prog.underlying 258=some (.struct (prog.fieldsOf 258)):=by kernel_rfl
 have hp:prog.stoodInHeld 258=false:=by kernel_rfl
 have hm:prog.eqGuardType prog.depth 258=false:=by kernel_rfl
 simp only[execOp,h1,h2,Sem.run_bind,run_eqGuard_agg w _ _ _ _ _ _ hm,Result.andThen_ok];rw[run_eql_struct,show (10000:Nat)=9999+1 from rfl,run_equalIn_agg w 9999 258 _ _ hS hp];simp only[Program.fieldsOf,underlying258]
 go_simp
 by_cases h1:a=c<;>by_cases h2:b=d<;>simp[h1,h2]⟩
instance (u:TypeId)(x y:Operand)(a b c d:Int):PV prog (.binOp .eql 258 x y u) [.agg #[.int .i64 a,.int .u64 b],.agg #[.int .i64 c,.int .u64 d]] (.bool (a==c&&b==d)) True:=aYx _ u x y a b c d rfl
instance {w0:World}{W:Nat→Prop}{H:List HE}(u:TypeId)(x y:Operand)(a b c d:Int):MS prog w0 W H (.binOp .eql 258 x y u) [.agg #[.int .i64 a,.int .u64 b],.agg #[.int .i64 c,.int .u64 d]] (.bool (a==c&&b==d)) True:=⟨by intro _ F n N ds σ dd ty pos aft gd K Q _ hv hdN h;exact dS aE rfl hdN (fun a w ha _=>aDq (o:=⟨some dd,_,ty,pos,aft,gd⟩) hv trivial a.eval (fun x _ u hu=>ha.eval hu) w) h⟩
def wV(a b:Int):Int:=if a<b then -1 else if a=b then 0 else 1
attribute [local irreducible] OJ J bO Code.wpIn wpListIn Oper.wpIn bodyPost CallsIn aF
instance wcmp_cv(a b:Int):CV prog 230 [.agg (cH a).toArray,.agg (cH b).toArray] (.int .i64 (wV a b)) True:=⟨fun _ w=>by have h1:a=18446744073709551616*(a/18446744073709551616)+a%18446744073709551616:=oo;have h2:b=18446744073709551616*(b/18446744073709551616)+b%18446744073709551616:=oo;have h3:0≤a%18446744073709551616∧a%18446744073709551616<18446744073709551616:=oo;have h4:0≤b%18446744073709551616∧b%18446744073709551616<18446744073709551616:=oo;refine aJ func230 rfl ntmps230 rfl ⟨aE,.nil⟩ (fun n=>?_);simp only[aG];unfold wV;generalize a/18446744073709551616=p at *;generalize a%18446744073709551616=q at *;generalize b/18446744073709551616=r at *;generalize b%18446744073709551616=s at *;refine aB;all_goals exact aK rfl rfl (.nil _) ⟨congrArg (Value.int .i64) (by split<;>(try split)<;>omega),rfl⟩⟩
def wU(best second num den:Int):Bool:=decide (0≤best∧0≤num∧1≤den∧(second<0∨best*num<second*den))
theorem aCr(a b:Int):0<wV a b↔b<a:=by unfold wV;split<;>(try split)<;>omega
theorem aSw(best second num den:Int)(h1:aP .i64 best)(h2:aP .i64 second)(h3:aP .i64 num)(h4:aP .i64 den)(w:World):
  aF prog 182 [.int .i64 best,.int .i64 second,.int .i64 num,.int .i64 den] [] w (fun v S'=>v=.bool (wU best second num den)∧S'=[]):=by
 refine aJ func182 rfl ntmps182 rfl ⟨aE,.nil⟩ (fun n=>?_);simp only[aG];have hp:=aCr (second*den) (best*num);have key:wU best second num den=true↔(0≤best∧0≤num∧1≤den∧(second<0∨best*num<second*den)):=by simp[wU]
 have iC:CV prog 230 [.agg (cH (second*den)).toArray,.agg (cH (best*num)).toArray] (.int .i64 (wV (second*den) (best*num))) True:=wcmp_cv _ _;generalize wU best second num den=r at *;refine aB;all_goals exact aK rfl rfl (.nil _) ⟨congrArg Value.bool (by rw[Bool.eq_iff_iff,key];simp only[decide_eq_true_eq,Bool.false_eq_true,false_iff,true_iff];omega),rfl⟩
instance far_cv(a b:kR)(away:Int):CV prog 229 [.agg (jF a).toArray,.agg (jF b).toArray,.int .i64 away] (.bool (aFu a b away)) (((-32≤a.i∧a.i≤32)∧(-32≤a.k∧a.k≤32))∧(-32≤b.i∧b.i≤32)∧(-32≤b.k∧b.k≤32)):=⟨fun hc w=>by refine aJ func229 rfl ntmps229 rfl ⟨aE,.nil⟩ (fun n=>?_);simp only[aG];refine aB;exact aK rfl rfl (.nil _) ⟨rfl,rfl⟩⟩
def ApR(W H:Nat)(f:List Int)(X Y:Int)(l:List cQ)(T:List HE)(v:Value)(S':List HE):Prop :=
 (tK W H f X Y l l.length=true∧∃A c,v=.tuple #[.slice A (nE W H f X Y l l.length).length c,.bool true]∧S'=.row (.slice A (nE W H f X Y l l.length).length c) 2 1 (nE W H f X Y l l.length).length (aC .i64 (nE W H f X Y l l.length))::T) ∨
 (tK W H f X Y l l.length=false∧v=.tuple #[.slice none 0 0,.bool false]∧S'=T)
theorem aMv{W H:Nat}{f:List Int}{X Y:Int}{l:List cQ}{i:Nat}: ∀{n:Nat},i<n→eN W H f (X+(l.getD i default).dx) (Y+(l.getD i default).dy)≠0→tK W H f X Y l n=false
 | n+1,hi,h=>by
  rw[tK];rcases Nat.lt_or_ge i n with h1|h1
  ·rw[aMv h1 h];rfl
  ·obtain rfl:i=n:=oo;have:(eN W H f (X+(l.getD i default).dx) (Y+(l.getD i default).dy)==0)=false:=by simpa using h
   rw[this,Bool.and_false]
theorem aXi{W H:Nat}{f:List Int}{X Y:Int}{l:List cQ}{n:Nat}(h:tK W H f X Y l n=true)(h2:eN W H f (X+(l.getD n default).dx) (Y+(l.getD n default).dy)=0):tK W H f X Y l (n+1)=true:=by rw[tK,h,h2];rfl
theorem aQr(K:eT)(s:dU)(f:List Int)(X Y b:Int)(Al:Option Addr)(cl:Nat)(l:List cQ)(w:World)(hown:aZ (K.H s) w)(hF:kJ K.ys f K.room)(h:cV K.ys f K.room s b)(hb:b≤800000000000000000)
  (hr:bF w (aV (K.H s)) Al l.length cl 3 (aR cD l)) (hm:l.length≤1000000) (hXb : -2199023255552≤X∧X≤2199023255552) (hYb : -2199023255552≤Y∧Y≤2199023255552) (hl:∀j,j<l.length→sL (l.getD j default)) :
  aF prog 269 [.pointer (some ⟨K.g,0,none⟩),.agg #[.int .i64 X,.int .i64 Y],.slice Al l.length cl] (K.H s) w
   (fun v S'=>∃s',cV K.ys f K.room s' (b+4*(l.length:Int))∧ApR (wY K.ys) (hY K.ys) f X Y l (K.H s') v S'):=by
 refine aJ func269 rfl ntmps269 rfl hown (fun n=>?_);simp only[aG];refine dD (e:=2) (size:=1) ?_;refine aB;rename_i b4;refine bT (X:=Nat×dU×Option Addr×Nat) (fun q=>q.1≤l.length∧cV K.ys f K.room q.2.1 (b+4*(q.1:Int))∧tK (wY K.ys) (hY K.ys) f X Y l q.1=true)
  (fun q=>[(0,.pointer (some ⟨K.g,0,none⟩)),(4,.pointer (some ⟨b4,0,none⟩)),(8,.slice q.2.2.1 (nE (wY K.ys) (hY K.ys) f X Y l q.1).length q.2.2.2),(13,.slice Al l.length cl),(14,.int .i64 l.length),(15,.int .i64 q.1)])
  (fun q=>K.HC q.2.1 [.blk b4 44 [.int .i64 X,.int .i64 Y],.row (.slice q.2.2.1 (nE (wY K.ys) (hY K.ys) f X Y l q.1).length q.2.2.2) 2 1 (nE (wY K.ys) (hY K.ys) f X Y l q.1).length (aC .i64 (nE (wY K.ys) (hY K.ys) f X Y l q.1))]) (fun q=>l.length-q.1) (0,s,none,0) ⟨oo,by simpa using h,rfl⟩ ⟨rfl,rfl,rfl,rfl,rfl,rfl,trivial⟩ (by simp only[nE,aC,List.map_nil,List.length_nil];exact aA.au) ?_
 rintro⟨i,s1,A1,c1⟩ ⟨hi,hk,hon⟩;dsimp only at hi hk hon ⊢;have hal:=aF0 (wY K.ys) (hY K.ys) f X Y l i;rcases Nat.lt_or_ge i l.length with hlt|hge
 ·obtain⟨bL,oL,rfl,hL⟩:=hr.at_ (by omega:0<l.length);have hsx:=hl i hlt;unfold sL at hsx;have hz:=aG6 hF.good.1 (W:=wY K.ys) (H:=hY K.ys) (X+(l.getD i default).dx) (Y+(l.getD i default).dy);have hno:=aMv (W:=wY K.ys) (H:=hY K.ys) (f:=f) (X:=X) (Y:=Y) (l:=l) hlt;have hyes:=aXi hon;have hap:nE (wY K.ys) (hY K.ys) f X Y l (i+1)=nE (wY K.ys) (hY K.ys) f X Y l i++[lI (wY K.ys) (hY K.ys) f (X+(l.getD i default).dx) (Y+(l.getD i default).dy)-(l.getD i default).z]:=rfl;refine aB;refine lf rfl rfl rfl (S:=K.H s1) (fun w hw ho=>aG7 K s1 f (X+(l.getD i default).dx) (Y+(l.getD i default).dy) (b+4*(i:Int)) w ho hF hk oo) ?_;rintro v S' ⟨s',rfl,k1,rfl⟩;generalize lI (wY K.ys) (hY K.ys) f (X+(l.getD i default).dx) (Y+(l.getD i default).dy)=z at *;generalize eN (wY K.ys) (hY K.ys) f (X+(l.getD i default).dx) (Y+(l.getD i default).dy)=e at *;generalize hga:nE (wY K.ys) (hY K.ys) f X Y l i=ga at *;refine aB
  ·refine cM rfl rfl (S':=K.H s') rfl aA.au ⟨s',k1.mono oo,.inr ⟨hno oa,rfl,rfl⟩⟩
  ·rename_i he _ A2 c2;refine aN (i+1,s',A2,c2) ⟨hlt,k1.mono (by dsimp only;omega),hyes (Classical.not_not.1 he)⟩ (by show l.length-(i+1)<l.length-i;omega) ⟨rfl,rfl,by simp only[hap];rfl,rfl,rfl,by simp[aH],trivial⟩ ?_;simp only[hap];exact aA.au
 ·obtain rfl:i=l.length:=oo;refine aB;exact cM rfl rfl rfl aA.au ⟨s1,hk,.inl ⟨hon,A1,c1,rfl,rfl⟩⟩
end Go.Proofs.YtpmkboockihdbaaGreat
namespace Go.Proofs.YtpmkboockihdbaaGreat
open Go.RowKit _root_.Go.Proofs.Tryz
theorem aD.tailT:∀T:List HE,aD T T []
 | []=>.nil _
 | x::T=>.cons (.here _ _) (aD.tailT T)
theorem aD.preT(T:List HE):∀l:List HE,aD (l++T) T l
 | []=>aD.tailT T
 | y::l=>by
  have key:∀{H S R:List HE} (y:HE),aD H S R→aD (y::H) S (y::R):=by
   intro H S R y hsp
   induction hsp with
   | nil H=>exact .nil _
   | cons h _ ih=>exact .cons (.there y h) ih
  exact key y (aD.preT T l)
theorem xC{N:Nat}{ds:List Deferred}{w0:World}{W:Nat→Prop}{σ:List (Nat×Value)}{S R:List HE}{q:Act→World→Prop}(h:J N ds w0 W σ (R++S) q):J N ds w0 W σ (S++R) q:=fun a w ha hw=>h a w ha (hw.perm List.perm_append_comm)
theorem aCf{S T:List HE}(hp:S.Perm T):aV S=aV T:=by funext b;apply propext;exact⟨fun ⟨x,hx,hb⟩=>⟨x,hp.mem_iff.1 hx,hb⟩,fun ⟨x,hx,hb⟩=>⟨x,hp.mem_iff.2 hx,hb⟩⟩
theorem aA.appT{S H:List HE}(T:List HE)(h:aA S H):aA (S++T) (H++T):=by
 have key:∀{H S R:List HE} (x:HE),aS H x R→aS (H++T) x (R++T):=by
  intro H S R x h
  induction h with
  | here x r=>exact .here _ _
  | there y _ ih=>exact .there y ih
 induction h with
 | nil H =>
  induction H with
  | nil=>exact aA.refl _
  | cons y H ih=>exact aA.skip ih y
 | cons h _ ih=>exact .cons (key (S:=[]) _ h) ih
@[reducible] def kQ(gs gl gc gm:Nat)(K:eT)(s:eK)(Al:Option Addr)(cl:Nat)(l:List cQ)(m:Int)(c:dU)(S:List HE):List HE :=
 .blk gs 300 (mQ s)::.blk gl 301 [.slice Al l.length cl]::.blk gc 33 [.pointer (some ⟨K.g,0,none⟩)]::.blk gm 3 [.int .i64 m]::K.HC c S
theorem aVe(gs gl gc gm:Nat)(K:eT)(s:eK)(Al:Option Addr)(cl:Nat)(l:List cQ)(m:Int)(c:dU)(S:List HE):aD (kQ gs gl gc gm K s Al cl l m c S) S (kQ gs gl gc gm K s Al cl l m c []):=aD.preT S (kQ gs gl gc gm K s Al cl l m c [])
theorem aGc(x:HE)(gs gl gc gm:Nat)(K:eT)(s:eK)(Al:Option Addr)(cl:Nat)(l:List cQ)(m:Int)(c:dU)(S:List HE):(x::kQ gs gl gc gm K s Al cl l m c S).Perm (kQ gs gl gc gm K s Al cl l m c (x::S)) :=
 (List.perm_middle (l₁:=kQ gs gl gc gm K s Al cl l m c []) (l₂:=S) (a:=x)).symm
theorem aQk{W H:Nat}{f:List Int}{s:eK}{l:List cQ}{m:Int}{i j:Nat}(hi:i<bU s.far):
  gS W H f s l m (j*bU s.far+i)=if tK W H f (s.x+((i:Int)-s.far)*s.step) (s.y+((j:Int)-s.far)*s.step) l l.length=true then some (qA (nE W H f (s.x+((i:Int)-s.far)*s.step) (s.y+((j:Int)-s.far)*s.step) l l.length) m 1 2 10)else none:=by
 unfold gS aHb;rw[aH7 hi]
attribute [local irreducible] OJ J bO Code.wpIn wpListIn Oper.wpIn bodyPost CallsIn aF
theorem aQg(lp gs gl gc gm:Nat)(K:eT)(s0:dU)(f:List Int)(s:eK)(Al:Option Addr)(cl:Nat)(l:List cQ)(m b:Int)(w:World)(S:List HE)(I:Nat→List HE→Prop)(D:List HE→Prop)
  (hown:aZ (kQ gs gl gc gm K s Al cl l m s0 S) w) (hF:kJ K.ys f K.room) (hk0:cV K.ys f K.room s0 b) (hb:b≤700000000000000000)
  (hr:bF w (aV (kQ gs gl gc gm K s Al cl l m s0 S)) Al l.length cl 3 (aR cD l)) (hm:l.length≤1000000) (h0:I 0 S)
  (hy:∀i S',i<(aY (wY K.ys) (hY K.ys) f s l m).length→I i S'→∀w',aZ S' w'→rP prog lp [.agg (jF ((aY (wY K.ys) (hY K.ys) f s l m).getD i default)).toArray] S' w' (fun v S''=>(v=.bool true∧I (i+1) S'')∨(v=.bool false∧D S''))) :
  aF prog 268 [.func (.yield lp) #[] #[],.pointer (some ⟨gs,0,none⟩),.pointer (some ⟨gl,0,none⟩),.pointer (some ⟨gc,0,none⟩),.pointer (some ⟨gm,0,none⟩)] (kQ gs gl gc gm K s Al cl l m s0 S) w
   (fun v S'=>v=.tuple #[]∧∃s1 S1,cV K.ys f K.room s1 (b+1081600)∧S'=kQ gs gl gc gm K s Al cl l m s1 S1∧(I (aY (wY K.ys) (hY K.ys) f s l m).length S1∨D S1)):=by
 refine aJ func268 rfl ntmps268 rfl hown (fun n=>?_);simp only[aG];refine aB;refine bQ rfl rfl rfl (fun w hw=>aM9 s Al cl l w ⟨hr.h.go hw (aD.nil _)⟩ hm) ?_;by_cases hc:mN s l=0
 ·obtain⟨⟨⟨a1,a2⟩,⟨a3,a4⟩,⟨a5,a6⟩,a7,a8⟩,⟨l1,l2⟩,hl⟩:=aCo hc;have hL:aY (wY K.ys) (hY K.ys) f s l m=(nV (wY K.ys) (hY K.ys) f s l m (bU s.far*bU s.far)).1:=if_pos hc;have hside:((bU s.far:Nat):Int)=2*s.far+1:=by unfold bU;omega
  rw[hL]at hy ⊢;have hrd:=fun i j hi=>aQk (W:=wY K.ys) (H:=hY K.ys) (f:=f) (s:=s) (l:=l) (m:=m) (i:=i) (j:=j) hi;generalize hsd:bU s.far=sd at *;rw[hc];refine aB;refine bT (X:=Nat×dU×List HE) (fun q=>q.1≤sd∧cV K.ys f K.room q.2.1 (b+256*((q.1*sd:Nat):Int))∧(nV (wY K.ys) (hY K.ys) f s l m (q.1*sd)).2=false∧I (nV (wY K.ys) (hY K.ys) f s l m (q.1*sd)).1.length q.2.2)
   (fun q=>[(0,.func (.yield lp) #[] #[]),(0+1,.pointer (some ⟨gs,0,none⟩)),(0+1+1,.pointer (some ⟨gl,0,none⟩)),(0+1+1+1,.pointer (some ⟨gc,0,none⟩)),(0+1+1+1+1,.pointer (some ⟨gm,0,none⟩)),(6,.int .i64 ((q.1:Int)-s.far))])
   (fun q=>kQ gs gl gc gm K s Al cl l m q.2.1 q.2.2) (fun q=>sd-q.1) (0,s0,S) ⟨oo,by simpa using hk0,by rw[Nat.zero_mul];rfl,by rw[Nat.zero_mul];exact h0⟩ ⟨rfl,rfl,rfl,rfl,rfl,by simp[aH],trivial⟩ (aA.refl _) ?_
  rintro⟨j,s1,S1⟩ ⟨hj,hk,hok,hI⟩;dsimp only at hj hk hok hI ⊢;rcases Nat.lt_or_ge j sd with hlt|hge
  ·have hjs:j*sd+sd≤sd*sd:=by have:=Nat.mul_le_mul_right sd (show j+1≤sd from hlt);rw[Nat.add_mul,Nat.one_mul]at this;exact this
   have hss:sd*sd≤4225:=by have:=Nat.mul_le_mul (show sd≤65 by omega) (show sd≤65 by omega);omega
   have hsj:(j+1)*sd=j*sd+sd:=by rw[Nat.add_mul,Nat.one_mul]
   refine aB;refine bT (X:=Nat×dU×List HE) (fun q=>q.1≤sd∧cV K.ys f K.room q.2.1 (b+256*((j*sd+q.1:Nat):Int))∧(nV (wY K.ys) (hY K.ys) f s l m (j*sd+q.1)).2=false∧I (nV (wY K.ys) (hY K.ys) f s l m (j*sd+q.1)).1.length q.2.2)
    (fun q=>[(0,.func (.yield lp) #[] #[]),(0+1,.pointer (some ⟨gs,0,none⟩)),(0+1+1,.pointer (some ⟨gl,0,none⟩)),(0+1+1+1,.pointer (some ⟨gc,0,none⟩)),(0+1+1+1+1,.pointer (some ⟨gm,0,none⟩)),(6,.int .i64 ((j:Int)-s.far)),(7,.int .i64 ((q.1:Int)-s.far))])
    (fun q=>kQ gs gl gc gm K s Al cl l m q.2.1 q.2.2) (fun q=>sd-q.1) (0,s1,S1) ⟨oo,hk,hok,hI⟩ ⟨rfl,rfl,rfl,rfl,rfl,rfl,by simp[aH],trivial⟩ (aA.refl _) ?_
   rintro⟨i,s2,S2⟩ ⟨hi,hk2,hok2,hI2⟩;dsimp only at hi hk2 hok2 hI2 ⊢;rcases Nat.lt_or_ge i sd with hlt2|hge2
   ·have hg:=hrd i j hlt2;have hx:=fU 32 4096 (a:=(i:Int)-s.far) (b:=s.step) oo oo;have hy2:=fU 32 4096 (a:=(j:Int)-s.far) (b:=s.step) oo oo;have hn:=aQj (g:=gS (wY K.ys) (hY K.ys) f s l m) (p:=pS s.far) (n:=j*sd+i) hok2;have hsm:=fun c=>aJ4 (g:=gS (wY K.ys) (hY K.ys) f s l m) (p:=pS s.far) (n:=j*sd+i) (c:=c) hok2;have her:=fun c e=>aQi (g:=gS (wY K.ys) (hY K.ys) f s l m) (p:=pS s.far) (n:=j*sd+i) (c:=c) (e:=e) hok2;have hat:=fun c=>aQh (g:=gS (wY K.ys) (hY K.ys) f s l m) (p:=pS s.far) (n:=j*sd+i) (N:=sd*sd) (c:=c) oo hok2;have hst:=fun h=>aJ5 (g:=gS (wY K.ys) (hY K.ys) f s l m) (p:=pS s.far) (n:=j*sd+i+1) h (sd*sd-(j*sd+i+1));rw[show j*sd+i+1+(sd*sd-(j*sd+i+1))=sd*sd by omega]at hst;have hps:pS s.far (j*sd+i)=((i:Int)-s.far,(j:Int)-s.far):=by rw[← hsd];exact aH7 (by rw[hsd];exact hlt2)
    generalize hXe:s.x+((i:Int)-s.far)*s.step=X at *;generalize hYe:s.y+((j:Int)-s.far)*s.step=Y at *;refine aB;rw[hXe,hYe];refine lf rfl rfl rfl (S:=K.H s2) (fun w hw ho=>aQr K s2 f X Y (b+256*((j*sd+i:Nat):Int)) Al cl l w ho hF hk2 oo ⟨hr.h.go hw aD.au⟩ hm oo oo hl) ?_;rintro v S' ⟨s3,hk3,hap⟩;rcases hap with⟨hon,Aa,ca,rfl,rfl⟩ | ⟨hon,rfl,rfl⟩
    ·rw[if_pos hon]at hg;have hal:=aF0 (wY K.ys) (hY K.ys) f X Y l l.length;generalize hd:nE (wY K.ys) (hY K.ys) f X Y l l.length=d at *;refine aB;refine bQ rfl rfl rfl (fun w hw=>aWm Aa ca d m w ⟨Ro.row hw (aD.nil _) (by refine bV)⟩ oo) ?_;obtain⟨cc1,e1,hce⟩:∃c e,qA d m 1 2 10=(c,e):=⟨_,_,rfl⟩;rw[hce]at hg ⊢;dsimp only;refine aB
     ·rename_i hne;have hne':e1≠0:=by simpa using hne
      have he:=her _ _ hg hne';refine oX rfl (aA.appT (S:=kQ gs gl gc gm K s Al cl l m s3 []) (H:=.row (.slice Aa d.length ca) 2 1 d.length (aC .i64 d)::K.HC s3 [.blk gs 300 (mQ s),.blk gl 301 [.slice Al l.length cl],.blk gc 33 [.pointer (some ⟨K.g,0,none⟩)],.blk gm 3 [.int .i64 m]]) S2 aA.au) ⟨rfl,s3,S2,hk3.mono oo,rfl,.inl ?_⟩;unfold nV at hI2 ⊢;rw[hst (by rw[he]),he];exact hI2
     ·rename_i hne;obtain rfl:e1=0:=by simpa using hne
      have hsm':=hsm _ hg;obtain⟨hat1,hat2⟩:=hat _ hg;refine kF (H':=kQ gs gl gc gm K s Al cl l m s3 S2) (aA.appT (S:=kQ gs gl gc gm K s Al cl l m s3 []) (H:=.row (.slice Aa d.length ca) 2 1 d.length (aC .i64 d)::K.HC s3 [.blk gs 300 (mQ s),.blk gl 301 [.slice Al l.length cl],.blk gc 33 [.pointer (some ⟨K.g,0,none⟩)],.blk gm 3 [.int .i64 m]]) S2 aA.au) ?_;refine aB;refine lyl rfl rfl rfl (aVe gs gl gc gm K s Al cl l m s3 S2) rfl (fun w hw ho=>by have:=hy _ S2 hat2 hI2 w ho;unfold nV at this;rw[hat1,hps]at this;exact this) ?_;rintro v S3 (⟨rfl,hI3⟩ | ⟨rfl,hD⟩)
      ·refine xC ?_;show J _ _ _ _ _ (kQ gs gl gc gm K s Al cl l m s3 S3) _;refine aB;exact aN (i+1,s3,S3) ⟨hlt2,hk3.mono (by dsimp only;omega),by show (nV _ _ _ _ _ _ (j*sd+i+1)).2=false;unfold nV;rw[hsm'],by show I (nV _ _ _ _ _ _ (j*sd+i+1)).1.length _;unfold nV;rw[hsm',List.length_append];exact hI3⟩ (by show sd-(i+1)<sd-i;omega) ⟨rfl,rfl,rfl,rfl,rfl,rfl,by simp[aH];omega,trivial⟩ (aA.refl _)
      ·refine xC ?_;show J _ _ _ _ _ (kQ gs gl gc gm K s Al cl l m s3 S3) _;refine aB;exact aGg rfl (aA.refl _) ⟨rfl,s3,S3,hk3.mono oo,rfl,.inr hD⟩
    ·rw[hon,if_neg od]at hg;refine aB;exact aN (i+1,s3,S2) ⟨hlt2,hk3.mono (by dsimp only;omega),by show (nV _ _ _ _ _ _ (j*sd+i+1)).2=false;unfold nV;rw[hn hg];exact hok2,by show I (nV _ _ _ _ _ _ (j*sd+i+1)).1.length _;unfold nV;rw[hn hg];exact hI2⟩ (by show sd-(i+1)<sd-i;omega) ⟨rfl,rfl,rfl,rfl,rfl,rfl,by simp[aH];omega,trivial⟩ (aA.appT (S:=kQ gs gl gc gm K s Al cl l m s3 []) (H:=K.HC s3 [.blk gs 300 (mQ s),.blk gl 301 [.slice Al l.length cl],.blk gc 33 [.pointer (some ⟨K.g,0,none⟩)],.blk gm 3 [.int .i64 m]]) S2 aA.au)
   ·obtain rfl:i=sd:=oo;refine aB;refine aN (j+1,s2,S2) ⟨hlt,by dsimp only;rw[hsj];exact hk2,by dsimp only;rw[hsj];exact hok2,by dsimp only;rw[hsj];exact hI2⟩ (by show i-(j+1)<i-j;omega) ⟨rfl,rfl,rfl,rfl,rfl,by simp[aH];omega,trivial⟩ (aA.refl _)
  ·obtain rfl:j=sd:=oo;have hss:j*j≤4225:=by have:=Nat.mul_le_mul (show j≤65 by omega) (show j≤65 by omega);omega
   refine aB;exact oX rfl (aA.refl _) ⟨rfl,s1,S1,hk.mono oo,rfl,.inl hI⟩
 ·have hL:aY (wY K.ys) (hY K.ys) f s l m=[]:=if_neg hc;rw[hL]at hy ⊢;refine aB;exact aGg rfl (aA.refl _) ⟨rfl,s0,S,hk0.mono oo,rfl,.inl h0⟩
theorem aJq{L:List kR}(h:∀i,i<L.length→((-32≤(L.getD i default).i∧(L.getD i default).i≤32)∧(-32≤(L.getD i default).k∧(L.getD i default).k≤32))):∀n,n≤L.length→(-32≤(fJ L n).i∧(fJ L n).i≤32)∧(-32≤(fJ L n).k∧(fJ L n).k≤32)
 | 0,_=>by simp[fJ]
 | n+1,hn=>by
  have h1:=aJq h n oo;have h2:=h n oo;rw[fJ];split
  ·exact h2
  ·exact h1
theorem aEw(g:Nat)(s:eK)(Al:Option Addr)(n cl:Nat)(m:Int)(w:World):
  aF prog 228 [.pointer (some ⟨g,0,none⟩),.agg (mQ s).toArray,.slice Al n cl,.int .i64 m] [] w
   (fun v S'=>∃gs gl gc gm,v=.func (.func 268) #[] #[.pointer (some ⟨gs,0,none⟩),.pointer (some ⟨gl,0,none⟩),.pointer (some ⟨gc,0,none⟩),.pointer (some ⟨gm,0,none⟩)] ∧
    S'=[.blk gs 300 (mQ s),.blk gl 301 [.slice Al n cl],.blk gc 33 [.pointer (some ⟨g,0,none⟩)],.blk gm 3 [.int .i64 m]]):=by
 refine aJ func228 rfl ntmps228 rfl ⟨aE,.nil⟩ (fun _=>?_);simp only[aG];refine aB;exact aK rfl rfl aA.au ⟨_,_,_,_,rfl,rfl⟩
theorem aD.push1{H S R:List HE}(y:HE)(h:aD H S R):aD (y::H) S (y::R):=by
 induction h with
 | nil H=>exact .nil _
 | cons h _ ih=>exact .cons (.there y h) ih
theorem aRn{n N:Nat}{ds:List Deferred}{w0:World}{W:Nat→Prop}{σ:List (Nat×Value)}{H:List HE}{Q:Exit→Act→World→Prop}{g:Operand}{ps:Array Tmp}{assign body:Code}{gs gl gc gm:Nat}{K:eT}{s0:dU}{f:List Int}{s:eK}{Al:Option Addr}{cl:Nat}{l:List cQ}{m b:Int}{S R:List HE}(I:Nat→List HE→Prop)(D:Code→List HE→Prop)
  (hx:ev σ g=some (.func (.func 268) #[] #[.pointer (some ⟨gs,0,none⟩),.pointer (some ⟨gl,0,none⟩),.pointer (some ⟨gc,0,none⟩),.pointer (some ⟨gm,0,none⟩)])) (hs:aD H (kQ gs gl gc gm K s Al cl l m s0 S) R)
  (hF:kJ K.ys f K.room) (hk0:cV K.ys f K.room s0 b) (hb:b≤700000000000000000) (hr:∀x y w1,St w0 W (x::y::H) w1→Ro w1 (aV (x::kQ gs gl gc gm K s Al cl l m s0 S)) 3 (.slice Al l.length cl) l.length (aR cD l)) (hm:l.length≤1000000) (h0:I 0 S)
  (hy:∀lp i S1,i<(aY (wY K.ys) (hY K.ys) f s l m).length→I i S1→∀w1,aZ (.loop lp N σ ps assign body .ready none::S1) w1→rP prog lp [.agg (jF ((aY (wY K.ys) (hY K.ys) f s l m).getD i default)).toArray] (.loop lp N σ ps assign body .ready none::S1) w1
   (fun v S2=>(v=.bool true∧∃S3,S2=.loop lp N σ ps assign body .ready none::S3∧I (i+1) S3)∨(v=.bool false∧∃c S3,S2=.loop lp N σ ps assign body .done (some c)::S3∧D c S3)))
  (hn:∀d s1 S1,cV K.ys f K.room s1 (b+1081600)→I (aY (wY K.ys) (hY K.ys) f s l m).length S1→J N (mk d::ds) w0 W σ (K.HC s1 S1++.obj d (.deferred (some []))::R) (Q .normal))
  (hd:∀d c s1 S1,cV K.ys f K.room s1 (b+1081600)→D c S1→J N (mk d::ds) w0 W σ (K.HC s1 S1++.obj d (.deferred (some []))::R) (c.wpIn Fence.wide n prog Q)):J N ds w0 W σ H ((Code.rangeFunc g ps assign body).wpIn Fence.wide n prog Q):=by
 refine aAv (Rp:=fun d lp pend S1=>∃s1 S2,S1=kQ gs gl gc gm K s Al cl l m s1 S2∧cV K.ys f K.room s1 (b+1081600)∧((pend=none∧I (aY (wY K.ys) (hY K.ys) f s l m).length S2)∨∃c,pend=some c∧D c S2)) hx hs (fun d lp w1 LE hLE hw ho=>?_) ?_
 ·have hp:=aGc LE gs gl gc gm K s Al cl l m s0 S;have hr1:Ro w1 (aV (LE::kQ gs gl gc gm K s Al cl l m s0 S)) 3 (.slice Al l.length cl) l.length (aR cD l):=hr _ _ w1 hw;rw[aCf hp]at hr1;refine aF.conv (aQg lp gs gl gc gm K s0 f s Al cl l m b w1 (LE::S) (fun i S'=>∃S1,S'=LE::S1∧I i S1) (fun S'=>∃c S1,S'=.loop lp N σ ps assign body .done (some c)::S1∧D c S1) (ho.perm hp) hF hk0 hb ⟨hr1⟩ hm ⟨S,rfl,h0⟩ ?_) hp.symm ?_
  ·rintro i S' hi ⟨S1,rfl,hI⟩ w2 ho2;subst hLE;exact hy lp i S1 hi hI w2 ho2
  ·rintro v S' ⟨-,s1,S1,hk1,rfl,⟨S2,rfl,hI⟩ | ⟨c,S2,rfl,hD⟩⟩
   ·exact⟨_,(aGc _ gs gl gc gm K s Al cl l m s1 S2).symm,.ready,none,_,by rw[hLE],aE,s1,S2,rfl,hk1,.inl ⟨rfl,hI⟩⟩
   ·exact⟨_,(aGc _ gs gl gc gm K s Al cl l m s1 S2).symm,.done,some c,_,rfl,aE,s1,S2,rfl,hk1,.inr ⟨c,rfl,hD⟩⟩
 ·rintro d lp pend S1 ⟨s1,S2,rfl,hk1,⟨rfl,hI⟩ | ⟨c,rfl,hD⟩⟩
  ·exact⟨fun _=>kF (aA.skip (aA.skip (aA.skip (aA.skip (aA.refl _) _) _) _) _) (hn d s1 S2 hk1 hI),fun c h=>by cases h⟩
  ·exact⟨fun h=>(by cases h),fun c' h=>(by injection h with h;subst h;exact kF (aA.skip (aA.skip (aA.skip (aA.skip (aA.refl _) _) _) _) _) (hd d c s1 S2 hk1 hD))⟩
theorem aF5{n N:Nat}{ds:List Deferred}{w0:World}{W:Nat→Prop}{σ:List (Nat×Value)}{H:List HE}{Q:Exit→Act→World→Prop}{g:Operand}{ps:Array Tmp}{assign body:Code}{gs gl gc gm:Nat}{K:eT}{s0:dU}{f:List Int}{s:eK}{Al:Option Addr}{cl:Nat}{l:List cQ}{m b:Int}{S R:List HE}(I:Nat→List HE→Prop)(D:Code→List HE→Prop)
  (hx:ev σ g=some (.func (.func 268) #[] #[.pointer (some ⟨gs,0,none⟩),.pointer (some ⟨gl,0,none⟩),.pointer (some ⟨gc,0,none⟩),.pointer (some ⟨gm,0,none⟩)])) (hs:aD H (kQ gs gl gc gm K s Al cl l m s0 S) R)
  (hF:kJ K.ys f K.room) (hk0:cV K.ys f K.room s0 b) (hb:b≤700000000000000000) (hr:Ro w0 W 3 (.slice Al l.length cl) l.length (aR cD l)) (hm:l.length≤1000000) (h0:I 0 S)
  (hy:∀lp i S1,i<(aY (wY K.ys) (hY K.ys) f s l m).length→I i S1→∀w1,aZ (.loop lp N σ ps assign body .ready none::S1) w1→rP prog lp [.agg (jF ((aY (wY K.ys) (hY K.ys) f s l m).getD i default)).toArray] (.loop lp N σ ps assign body .ready none::S1) w1
   (fun v S2=>(v=.bool true∧∃S3,S2=.loop lp N σ ps assign body .ready none::S3∧I (i+1) S3)∨(v=.bool false∧∃c S3,S2=.loop lp N σ ps assign body .done (some c)::S3∧D c S3)))
  (hn:∀d s1 S1,cV K.ys f K.room s1 (b+1081600)→I (aY (wY K.ys) (hY K.ys) f s l m).length S1→J N (mk d::ds) w0 W σ (K.HC s1 S1++.obj d (.deferred (some []))::R) (Q .normal))
  (hd:∀d c s1 S1,cV K.ys f K.room s1 (b+1081600)→D c S1→J N (mk d::ds) w0 W σ (K.HC s1 S1++.obj d (.deferred (some []))::R) (c.wpIn Fence.wide n prog Q)):J N ds w0 W σ H ((Code.rangeFunc g ps assign body).wpIn Fence.wide n prog Q) :=
 aRn I D hx hs hF hk0 hb (fun x y w1 hw=>hr.go hw (.cons (.here _ _) (hs.push1 y))) hm h0 hy hn hd
theorem aM8(K:eT)(s0:dU)(f:List Int)(s:eK)(Al:Option Addr)(cl:Nat)(l:List cQ)(m away b:Int)(w:World)(hown:aZ (K.H s0) w)(hF:kJ K.ys f K.room)(hk0:cV K.ys f K.room s0 b)(hb:b≤600000000000000000)
  (hr:bF w (aV (K.H s0)) Al l.length cl 3 (aR cD l)) (hm:l.length≤1000000) :
  aF prog 181 [.pointer (some ⟨K.g,0,none⟩),.agg (mQ s).toArray,.slice Al l.length cl,.int .i64 m,.int .i64 away] (K.H s0) w
   (fun v S'=>∃s',cV K.ys f K.room s' (b+2163200)∧v=.tuple #[.agg (jF (fJ (aY (wY K.ys) (hY K.ys) f s l m) (aY (wY K.ys) (hY K.ys) f s l m).length)).toArray,.int .i64 (oF (aY (wY K.ys) (hY K.ys) f s l m) (fJ (aY (wY K.ys) (hY K.ys) f s l m) (aY (wY K.ys) (hY K.ys) f s l m).length) away (aY (wY K.ys) (hY K.ys) f s l m).length),.int .i64 (aY (wY K.ys) (hY K.ys) f s l m).length]∧S'=K.H s'):=by
 have hall:=fun i hi=>aCb (W:=wY K.ys) (H:=hY K.ys) (f:=f) (s:=s) (l:=l) (m:=m) (i:=i) hi;have hlen:=aEy (wY K.ys) (hY K.ys) f s l m;have hcb:=aJq (fun i hi=>⟨(hall i hi).1,(hall i hi).2.1⟩);refine vN func181 rfl ntmps181 rfl hown (fun n=>?_);simp only[aG];refine aB;rename_i b6 b9 b10 b13 b14;refine lf rfl rfl rfl (S:=[]) (fun w hw ho=>aEw K.g s Al l.length cl m w) ?_;rintro v S' ⟨gs,gl,gc,gm,rfl,rfl⟩;refine aB;refine aF5 (K:=K) (s0:=s0) (s:=s) (m:=m) (S:=[.blk b13 304 [.int .i64 0,.int .i64 0,.int .i64 (-1)],.blk b14 3 [.int .i64 0]]) (fun i S=>S=[.blk b13 304 (jF (fJ (aY (wY K.ys) (hY K.ys) f s l m) i)),.blk b14 3 [.int .i64 i]]) (fun _ _=>False) rfl aD.au hF hk0 oo hr.h hm rfl ?_ ?_ ?_
 ·rintro lp i S1 hi rfl w1 ho;have hx:=hall i hi;have e:=fJ.eq_2 (aY (wY K.ys) (hY K.ys) f s l m) i;dsimp only at hx;generalize (aY (wY K.ys) (hY K.ys) f s l m).getD i default=x at *;generalize hgc:fJ (aY (wY K.ys) (hY K.ys) f s l m) i=cb at *;refine uU (N:=67) ho rfl aE (fun n=>?_);simp only[over];refine aB;refine uB ?_;refine aB
  ·refine rS (S':=[_,.blk b13 304 (jF (fJ (aY (wY K.ys) (hY K.ys) f s l m) (i+1))),.blk b14 3 [.int .i64 ((i+1:Nat):Int)]]) ?_ (.inl ⟨rfl,_,rfl,rfl⟩);rw[e,if_pos (.inl oa),show ((i+1:Nat):Int)=(i:Int)+1 by omega];exact aA.au
  ·refine rS (S':=[_,.blk b13 304 (jF (fJ (aY (wY K.ys) (hY K.ys) f s l m) (i+1))),.blk b14 3 [.int .i64 ((i+1:Nat):Int)]]) ?_ (.inl ⟨rfl,_,rfl,rfl⟩);rw[e,if_pos (.inr oa),show ((i+1:Nat):Int)=(i:Int)+1 by omega];exact aA.au
  ·refine rS (S':=[_,.blk b13 304 (jF (fJ (aY (wY K.ys) (hY K.ys) f s l m) (i+1))),.blk b14 3 [.int .i64 ((i+1:Nat):Int)]]) ?_ (.inl ⟨rfl,_,rfl,rfl⟩);rw[e,if_neg oo,show ((i+1:Nat):Int)=(i:Int)+1 by omega];exact aA.au
 ·rintro d s1 S1 hk1 rfl;have hbest:=hcb _ (Nat.le_refl _);obtain⟨best,hbe⟩:∃x,fJ (aY (wY K.ys) (hY K.ys) f s l m) (aY (wY K.ys) (hY K.ys) f s l m).length=x:=⟨_,rfl⟩;rw[hbe]at hbest ⊢;refine aB;rename_i b16;refine lf rfl rfl rfl (S:=[]) (fun w hw ho=>aEw K.g s Al l.length cl m w) ?_;rintro v S' ⟨gs2,gl2,gc2,gm2,rfl,rfl⟩;refine aB;refine aF5 (K:=K) (s0:=s1) (s:=s) (m:=m) (S:=[.blk b13 304 (jF best),.blk b14 3 [.int .i64 (aY (wY K.ys) (hY K.ys) f s l m).length],.blk b9 3 [.int .i64 away],.blk b16 2 [.int .i64 (-1)]]) (fun i S=>S=[.blk b13 304 (jF best),.blk b14 3 [.int .i64 (aY (wY K.ys) (hY K.ys) f s l m).length],.blk b9 3 [.int .i64 away],.blk b16 2 [.int .i64 (oF (aY (wY K.ys) (hY K.ys) f s l m) best away i)]]) (fun _ _=>False) rfl aD.au hF hk1 oo hr.h hm rfl ?_ ?_ ?_
  ·rintro lp i S1 hi rfl w1 ho;have hx:=hall i hi;have e:=oF.eq_2 (aY (wY K.ys) (hY K.ys) f s l m) best away i;dsimp only at hx;generalize (aY (wY K.ys) (hY K.ys) f s l m).getD i default=x at *;generalize hgs:oF (aY (wY K.ys) (hY K.ys) f s l m) best away i=sc at *;have hlp:(0:Int)<(aY (wY K.ys) (hY K.ys) f s l m).length:=oo;have hfc:=far_cv x best away;generalize aFu x best away=fr at *;refine uU (N:=67) ho rfl aE (fun n=>?_);simp only[over];refine aB;refine uB ?_;refine aB;all_goals
    refine rS (S':=[_,.blk b13 304 (jF best),.blk b14 3 [.int .i64 (aY (wY K.ys) (hY K.ys) f s l m).length],.blk b9 3 [.int .i64 away],.blk b16 2 [.int .i64 (oF (aY (wY K.ys) (hY K.ys) f s l m) best away (i+1))]]) ?_ (.inl ⟨rfl,_,rfl,rfl⟩);first
    | (rw[e,if_pos ⟨oa,oo⟩];exact aA.au)
    | (rw[e,if_neg (by rintro⟨h1,h2⟩;first|omega|contradiction)];exact aA.au)
  ·rintro d2 s2 S2 hk2 rfl;refine aB;refine fL [.blk b13 304 (jF best),.blk b14 3 [.int .i64 (aY (wY K.ys) (hY K.ys) f s l m).length],.blk b16 2 [.int .i64 (oF (aY (wY K.ys) (hY K.ys) f s l m) best away (aY (wY K.ys) (hY K.ys) f s l m).length)]] (0::1::2::3::4::5::[]) aA.au ?_;intro _;refine gP;refine sA (Ds:=[d2,d]) (S':=K.H s2) (S2:=K.HC s2 [.blk b10 304 (jF best)]) ?_ ?_ ?_
   ·show aA (K.HC s2 [.blk b10 304 (jF best),.obj d2 (.deferred (some [])),.obj d (.deferred (some []))]) _;exact aA.au
   ·exact aA.au
   ·refine cY;exact⟨s2,hk2.mono oo,rfl,rfl⟩
  ·rintro d2 c s2 S2 hk2 h;exact h.elim
 ·rintro d c s1 S1 hk1 h;exact h.elim
end Go.Proofs.YtpmkboockihdbaaGreat
namespace Go.Proofs.YtpmkboockihdbaaGreat
open Go.RowKit _root_.Go.Proofs.Tryz
theorem aMw(x b:HE)(S:List HE):(x::b::S).Perm (b::x::S):=List.Perm.swap _ _ _
def aEs(w0:World)(W:Nat→Prop)(w1:World)(W1:Nat→Prop):Prop:=∀size u m xs,Ro w0 W size u m xs→Ro w1 W1 size u m xs
attribute [local irreducible] OJ J bO Code.wpIn wpListIn Oper.wpIn bodyPost CallsIn aF
section
variable {n N:Nat} {ds:List Deferred} {w0:World} {W:Nat→Prop} {σ:List (Nat×Value)} {H:List HE} {Q:Exit→Act→World→Prop} {g:Operand} {ps:Array Tmp} {assign body:Code} {gs:Nat} {s:eK} {S R:List HE}
end
def cA(g:Nat→Int):Nat→List Int
 | 0=>[]
 | i+1=>cA g i++[g i]
theorem eP(g:Nat→Int):∀n,(cA g n).length=n
 | 0=>rfl
 | n+1=>by rw[cA,List.length_append,eP g n];rfl
theorem mT(g:Nat→Int){i:Nat}: ∀{n:Nat},i<n→(cA g n).getD i 0=g i
 | n+1,h=>by
  rw[cA];rcases Nat.lt_or_ge i n with h1|h1
  ·rw[List.getD_eq_getElem?_getD,List.getElem?_append_left (by rw[eP];exact h1),← List.getD_eq_getElem?_getD,mT g h1]
  ·obtain rfl:i=n:=oo;rw[List.getD_eq_getElem?_getD,List.getElem?_append_right (by rw[eP];exact Nat.le_refl _),eP,Nat.sub_self];rfl
def lM(g:Nat→Int)(N i:Nat):List Int:=cA g i++List.replicate (N-i) 0
theorem aBp(g:Nat→Int){N i:Nat}(h:i≤N):(lM g N i).length=N:=by unfold lM;rw[List.length_append,eP,List.length_replicate];omega
theorem aHd(g:Nat→Int)(N:Nat):lM g N 0=List.replicate N 0:=rfl
theorem aBo(g:Nat→Int)(N:Nat):lM g N N=cA g N:=by unfold lM;rw[Nat.sub_self];simp
theorem aBq(g:Nat→Int){N i:Nat}(h:i<N):(lM g N i).set i (g i)=lM g N (i+1):=by unfold lM;rw[List.set_append_right _ _ (by rw[eP];exact Nat.le_refl _),eP,Nat.sub_self,cA,List.append_assoc];congr 1;rw[show N-i=(N-(i+1))+1 by omega,List.replicate_succ];rfl
structure bE where
 w:Int
 h:Int
 x:Int
 y:Int
 st:Int
 p:List Int
@[reducible] def aQ(g:bE)(A:Option Addr)(c:Nat):List Value:=[.int .i64 g.w,.int .i64 g.h,.int .i64 g.x,.int .i64 g.y,.int .i64 g.st,.slice A g.p.length c]
@[reducible] def kD:List Value:=[.int .i64 0,.int .i64 0,.int .i64 0,.int .i64 0,.int .i64 0,.slice none 0 0]
def aM(l:List Int):Nat→Int
 | 0=>0
 | i+1=>aM l i+l.getD i 0
def dI(l:List Int):Prop:=∀i,i<l.length→0≤l.getD i 0∧l.getD i 0≤1073741824
theorem pG{l:List Int}{B:Int}(h:∀i,i<l.length→0≤l.getD i 0∧l.getD i 0≤B):∀n,n≤l.length→0≤aM l n∧aM l n≤B*(n:Int)
 | 0,_=>by simp[aM]
 | n+1,hn=>by
  have ih:=pG h n oo;have h1:=h n oo;have e:B*((n+1:Nat):Int)=B*(n:Int)+B:=by push_cast;rw[Int.mul_add,Int.mul_one]
  rw[aM,e];omega
theorem aE6{l:List Int}{B:Int}(h:∀i,i<l.length→0≤l.getD i 0∧l.getD i 0≤B){i:Nat}: ∀n,n≤l.length→i<n→l.getD i 0≤aM l n
 | n+1,hn,hi=>by
  have h0:=(pG h n oo).1;have h1:=h n oo;rcases Nat.lt_or_ge i n with h2|h2
  ·have:=aE6 h n oo h2;rw[aM];omega
  ·obtain rfl:i=n:=oo;rw[aM];omega
def cK(p l:List Int):Nat→Int
 | 0=>0
 | i+1=>cK p l i+p.getD i 0*l.getD i 0
def jA(l:List Int):Nat→Int
 | 0=>0
 | i+1=>max (jA l i) (l.getD i 0)
def Wt(l:List Int):Prop:=∀i,i<l.length→0≤l.getD i 0∧l.getD i 0≤65536
theorem cN{a b A B:Int}(ha:0≤a∧a≤A)(hb:0≤b∧b≤B):0≤a*b∧a*b≤A*B :=
 ⟨Int.mul_nonneg ha.1 hb.1,Int.mul_le_mul ha.2 hb.2 hb.1 oo⟩
theorem zH{p l:List Int}(hp:dI p)(hl:Wt l)(he:l.length=p.length):∀n,n≤p.length→0≤cK p l n∧cK p l n≤70368744177664*(n:Int)
 | 0,_=>by simp[cK]
 | n+1,hn=>by have ih:=zH hp hl he n oo;have h1:=cN (hp n oo) (hl n oo);rw[cK];push_cast;omega
theorem aEi{p l:List Int}(hp:dI p)(hl:Wt l)(he:l.length=p.length){i:Nat}: ∀n,n≤p.length→i<n→p.getD i 0*l.getD i 0≤cK p l n
 | n+1,hn,hi=>by
  have h0:=(zH hp hl he n oo).1;have h1:=cN (hp n oo) (hl n oo);rw[cK];rcases Nat.lt_or_ge i n with h2|h2
  ·have:=aEi hp hl he n oo h2;omega
  ·obtain rfl:i=n:=oo;omega
theorem aA0{l:List Int}(hl:Wt l):∀n,n≤l.length→0≤jA l n∧jA l n≤65536
 | 0,_=>by simp[jA]
 | n+1,hn=>by have ih:=aA0 hl n oo;have h1:=hl n oo;rw[jA];omega
def lO(p l:List Int)(z:Int)(i:Nat):Int:=p.getD i 0*l.getD i 0*1073741824/z
def jX(p l:List Int):List Int:=cA (lO p l (cK p l p.length)) p.length
theorem aPg{p l:List Int}(hp:dI p)(hl:Wt l)(he:l.length=p.length)(hz:0<cK p l p.length){i:Nat}(hi:i<p.length):0≤lO p l (cK p l p.length) i∧lO p l (cK p l p.length) i≤1073741824:=by have h1:=cN (hp i hi) (hl i oo);have h2:=aEi hp hl he p.length (Nat.le_refl _) hi;unfold lO;generalize p.getD i 0*l.getD i 0=a at *;generalize cK p l p.length=z at *;refine⟨Int.ediv_nonneg oo oo,?_⟩;have:a*1073741824≤1073741824*z:=oo;exact Int.ediv_le_of_le_mul hz this
theorem aIk{p l:List Int}{z:Int}(hz:0<z):∀n,aM (cA (lO p l z) n) n*z≤cK p l n*1073741824∧cK p l n*1073741824≤aM (cA (lO p l z) n) n*z+(z-1)*n
 | 0=>by simp[aM,cK]
 | n+1=>by
  obtain⟨i1,i2⟩:=aIk (p:=p) (l:=l) hz n;have e:∀m,m≤n→aM (cA (lO p l z) (n+1)) m=aM (cA (lO p l z) n) m:=by
   intro m
   induction m with
   | zero=>intro _;rfl
   | succ m ih =>
    intro hm;rw[aM,aM,ih oo,mT _ oo,mT _ oo]
  rw[aM,e n (Nat.le_refl _),mT _ (Nat.lt_succ_self n),cK];have h1:=Int.mul_ediv_add_emod (p.getD n 0*l.getD n 0*1073741824) z;have h2:=Int.emod_nonneg (p.getD n 0*l.getD n 0*1073741824) (by omega:z≠0);have h3:=Int.emod_lt_of_pos (p.getD n 0*l.getD n 0*1073741824) hz;have eq:lO p l z n=p.getD n 0*l.getD n 0*1073741824/z:=rfl;rw[← eq]at h1;generalize p.getD n 0*l.getD n 0*1073741824%z=r at *;rw[Int.add_mul,Int.add_mul];have e2:(z-1)*((n+1:Nat):Int)=(z-1)*(n:Int)+(z-1):=by push_cast;rw[Int.mul_add,Int.mul_one]
  have e3:z*lO p l z n=lO p l z n*z:=Int.mul_comm _ _;rw[e2];generalize (z-1)*(n:Int)=a at *;generalize aM (cA (lO p l z) n) n*z=b at *;generalize lO p l z n*z=c at *;omega
def tT(g:bE)(v:Value)(S:List HE):Prop:=∃A c,v=.agg (aQ g A c).toArray∧S=[.row (.slice A g.p.length c) 2 1 g.p.length (aC .i64 g.p)]
def kY(w h st:Int):Prop:=(1≤w∧w≤64)∧(1≤h∧h≤64)∧16≤st∧st≤4096
instance (w h st:Int):Decidable (kY w h st):=by unfold kY;infer_instance
def aFq(n:Nat):List Int:=cA (fun _=>1073741824/(n:Int)) n
def aFp(w h x y st:Int):bE:=⟨w,h,x,y,st,aFq (w*h).toNat⟩
instance glen_cv(w h x y st:Int)(A:Option Addr)(m c:Nat):CV prog 92 [.agg #[.int .i64 w,.int .i64 h,.int .i64 x,.int .i64 y,.int .i64 st,.slice A m c]] (.int .i64 (w*h)) (aP .i64 (w*h)):=⟨fun hc w0=>by refine aJ func92 rfl ntmps92 rfl ⟨aE,.nil⟩ (fun n=>?_);simp only[aG];refine aB;exact aK rfl rfl (.nil _) ⟨rfl,rfl⟩⟩
theorem aTp(w h x y st:Int)(w0:World)(hok:kY w h st):aF prog 232 [.int .i64 w,.int .i64 h,.int .i64 x,.int .i64 y,.int .i64 st] [] w0
  (fun v S'=>∃u,v=.tuple #[u,.int .i64 0]∧tT (aFp w h x y st) u S'):=by
 obtain⟨⟨w1,w2⟩,⟨h1,h2⟩,s1,s2⟩:=hok;obtain⟨N,hN⟩:∃N:Nat,(w*h).toNat=N:=⟨_,rfl⟩;have hm:=cN (a:=w) (b:=h) (A:=64) (B:=64) oo oo;have hp:0<w*h:=Int.mul_pos oo oo;have hN2:w*h=(N:Int):=oo;have hN3:0<N∧N≤4096:=oo;have iM:∀w0 W H t u a b,MS prog w0 W H (.binOp .mul t a b u) [.int .i64 w,.int .i64 h] (.int .i64 (N:Int)) True:=fun _ _ _ _ _ _ _=>bM inferInstance (by show (-9223372036854775808:Int)≤_∧_≤(9223372036854775807:Int);omega) (by rw[hN2]);unfold aFp aFq;rw[hN];have hset:=fun i (hi:i<N)=>aBq (fun _=>1073741824/(N:Int)) hi;have hlen:=fun i (hi:i≤N)=>aBp (fun _=>1073741824/(N:Int)) hi;have hq:0≤1073741824/(N:Int)∧1073741824/(N:Int)≤1073741824:=⟨Int.ediv_nonneg oo oo,Int.ediv_le_self _ oo⟩;refine aJ func232 rfl ntmps232 rfl ⟨aE,.nil⟩ (fun n=>?_);simp only[aG];clear hm hp hN;refine aB;rename_i b10 b12 _ _ _ _ _ _ bp;refine bT (X:=Nat) (fun i=>i≤N) (fun i=>[(0,.int .i64 w),(1,.int .i64 h),(10,.pointer (some ⟨b10,0,none⟩)),(12,.pointer (some ⟨b12,0,none⟩)),(50,.int .i64 N),(51,.int .i64 i)])
  (fun i=>[.row (.slice (some ⟨bp,0,none⟩) N N) 2 1 N (aC .i64 (lM (fun _=>1073741824/(N:Int)) N i)),.blk b12 37 [.int .i64 w,.int .i64 h,.int .i64 x,.int .i64 y,.int .i64 st,.slice (some ⟨bp,0,none⟩) N N],.blk b10 37 kD]) (fun i=>N-i) 0 (Nat.zero_le _) ⟨rfl,rfl,rfl,rfl,rfl,rfl,trivial⟩ (by show aA [.row (.slice (some ⟨bp,0,none⟩) N N) 2 1 N (aC .i64 (List.replicate N 0)),_,_] _;exact aA.au) ?_
 intro i hi;have hlen1:=hlen i hi;rcases Nat.lt_or_ge i N with h3|h3
 ·have hset1:=hset i h3;refine aB;refine aN (i+1) h3 (by show N-(i+1)<N-i;omega) ⟨rfl,rfl,rfl,rfl,rfl,by simp[aH],trivial⟩ ?_;rw[← hset1];exact aA.au
 ·obtain rfl:i=N:=oo;rw[aBo];have htl:=eP (fun _=>1073741824/(i:Int)) i;refine aB;refine eD (S':=[.row (.slice (some ⟨bp,0,none⟩) i i) 2 1 i (aC .i64 (cA (fun _=>1073741824/(i:Int)) i))]) aA.au ?_;refine cY;refine⟨_,rfl,some ⟨bp,0,none⟩,i,?_,?_⟩
  ·show _=Value.agg #[_,_,_,_,_,.slice _ (cA (fun _=>1073741824/(i:Int)) i).length _];rw[htl]
  ·show _=[HE.row (.slice _ (cA (fun _=>1073741824/(i:Int)) i).length _) _ _ (cA (fun _=>1073741824/(i:Int)) i).length _];rw[htl]
theorem aTq(w h x y st:Int)(w0:World)(hok:¬kY w h st):aF prog 232 [.int .i64 w,.int .i64 h,.int .i64 x,.int .i64 y,.int .i64 st] [] w0
  (fun v S'=>v=.tuple #[.agg (kD).toArray,.int .i64 2]∧S'=[]):=by
 refine aJ func232 rfl ntmps232 rfl ⟨aE,.nil⟩ (fun n=>?_);simp only[aG];unfold kY at hok;refine aB;all_goals first
  | (refine bI;exact⟨rfl,rfl⟩)
  | (exfalso;omega)
