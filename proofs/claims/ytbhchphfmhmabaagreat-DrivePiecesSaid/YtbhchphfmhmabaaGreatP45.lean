import Derived.Test.YtbhchphfmhmabaaGreatP38
import Derived.Test.YtbhchphfmhmabaaGreatP43
import Derived.Test.YtbhchphfmhmabaaGreatP44
set_option maxHeartbeats 512000000
set_option maxRecDepth 4000
set_option linter.unusedVariables false
set_option linter.unusedSimpArgs false
namespace Go.Proofs.YtbhchphfmhmabaaGreat
open Go.RowKit _root_.Go.Proofs.Tryz
def aI5(g:bE)(s:xK):Prop:=(s.kind=1∧tT g∨s.kind=2∧uU g∨s.kind=3∧(-64≤s.x∧s.x≤64)∧(-64≤s.y∧s.y≤64)∧(1≤s.w∧s.w≤16)∧(1≤s.h∧s.h≤16))∧dY (bN g s).p∧0<aL (bN g s).p (bN g s).p.length∧cH (bX (bN g s))∧(bN g s).p.length≤4096
theorem aEs{g:bE}(hg:cH g)(h:(aW g).kind≠0):aI5 g (aW g):=by
 obtain⟨h1,h2,h3,h4⟩:=aDd hg h;refine⟨?_,h2,h3,h4,?_⟩
 ·have hc:=aJ1 hg;clear h1 h2 h3 h4;unfold aW at h ⊢;split
  ·rename_i h1;exact .inr (.inl ⟨rfl,h1.2.2.2⟩)
  split
  ·rename_i h1;exact .inl ⟨rfl,h1.2.2.2⟩
  split
  ·exact .inr (.inr ⟨hc.2.2.2.2,hc.1,hc.2.1,hc.2.2.1,hc.2.2.2.1⟩)
  ·rename_i a b c;rw[if_neg a,if_neg b,if_neg c]at h;exact absurd rfl h
 ·have:=h4.len;unfold bX at this;dsimp only at this;rw[aCz]at this;exact this.2
attribute [local irreducible] OJ J bM Code.wpIn wpListIn Oper.wpIn bodyPost CallsIn aF
theorem aN0(g:bE)(s:xK)(A:Option Addr)(c:Nat)(w:World)(hr:bP w (bB []) A g.p.length c 1 (aD .i64 g.p))(hg:cH g)(hx : -4611686018427387904≤g.x∧g.x≤4611686018427387904)(hy : -4611686018427387904≤g.y∧g.y≤4611686018427387904)(hs:aI5 g s):
  aF prog 161 [.agg (aQ g A c).toArray,.agg (rG s).toArray] [] w
   (fun v S'=>∃u,v=.tuple #[u,.int .i64 (aL g.p g.p.length),.int .i64 (aL (bN g s).p (bN g s).p.length),.int .i64 0]∧tA (bX (bN g s)) u S'):=by
 obtain⟨hk,hp,hz,hG,hlen⟩:=hs;have hm4:=hg.len;have hS:=fun w hw=>aAl g A c w hw hg.2.2.1 hm4.2;have h0:0<(bN g s).p.length:=by
  rcases Nat.eq_zero_or_pos (bN g s).p.length with h|h
  ·rw[h]at hz;exact absurd hz (by show ¬(0:Int)<0;decide)
  ·exact h
 obtain⟨sk,sx,sy,sw,sh⟩:=s;dsimp only at hk hp hz hG hlen h0 ⊢;have fin:∀(raw:bE) (Ar:Option Addr) (cr:Nat),raw=bN g ⟨sk,sx,sy,sw,sh⟩→∀w,bP w (bB []) Ar raw.p.length cr 1 (aD .i64 raw.p)→(aF prog 156 [.agg (aQ raw Ar cr).toArray] [] w (fun v S'=>v=.int .i64 (aL raw.p raw.p.length)∧S'=[])∧aF prog 170 [.agg (aQ raw Ar cr).toArray] [] w (fun v S'=>∃u,v=.tuple #[u,.int .i64 0]∧tA (bX raw) u S')):=by rintro raw Ar cr rfl w hw;exact⟨aAl _ Ar cr w hw hp hlen,aLx _ Ar cr w hw hp ⟨h0,hlen⟩ hz⟩
 rcases hk with⟨rfl,ho⟩ | ⟨rfl,ho⟩ | ⟨rfl,q1,q2,q3,q4⟩
 ·have hR:=fun w hw=>aHd g A c w hw hg hx hy ho;have e:bN g ⟨1,sx,sy,sw,sh⟩=nU g:=rfl;rw[e]at hp hz hG hlen h0 ⊢;have fin2:=fun Ar cr w hw=>fin (nU g) Ar cr rfl w hw;clear fin hp hz hG h0;generalize nU g=raw at *;obtain⟨gw,gh,gx,gy,gs,p⟩:=g;dsimp only at hr hm4 hS hR ⊢;dsimp only[aQ]at hR hS ⊢;dsimp only[rG];clear hg;refine aJ func161 rfl ntmps161 rfl ⟨aE,.nil⟩ (fun _=>?_);simp only[aG];refine aB;rename_i b2 b3 b4 b8;refine lf rfl rfl rfl (S:=[]) (fun w hw ho=>hR w ⟨hr.h.go hw (aC.nil _)⟩) ?_;rintro v S' ⟨u,rfl,Ar,cr,rfl,rfl⟩;refine aB;refine bU rfl rfl rfl (fun w hw=>(fin2 Ar cr w ⟨Ro.row hw (aC.nil _) (by refine cF)⟩).1) ?_;refine aB;refine lf rfl rfl rfl (S:=[]) (fun w hw ho=>(fin2 Ar cr w ⟨Ro.row hw (aC.nil _) (by refine cF)⟩).2) ?_;rintro v S' ⟨u,rfl,An,cn,rfl,rfl⟩;obtain⟨nw,nh,nx,ny,ns,np⟩:=bX raw;dsimp only[aQ];refine aB;refine fJ [.blk b2 126 [.int .i64 gw,.int .i64 gh,.int .i64 gx,.int .i64 gy,.int .i64 gs,.slice A p.length c],.blk b8 126 [.int .i64 nw,.int .i64 nh,.int .i64 nx,.int .i64 ny,.int .i64 ns,.slice An np.length cn]] (0::1::2::3::4::5::6::7::[]) aA.au ?_;intro _;refine cE;all_goals refine bU rfl rfl rfl (fun w hw=>hS w ⟨hr.h.go hw (aC.nil _)⟩) ?_
  all_goals refine cE
  all_goals (refine eC (S':=[.row (.slice An np.length cn) 2 1 np.length (aD .i64 np)]) aA.au ?_;refine cZ;exact⟨_,rfl,An,cn,rfl,rfl⟩)
 ·have hR:=fun w hw=>aKu g A c w hw hg hx hy ho;have e:bN g ⟨2,sx,sy,sw,sh⟩=kN g:=rfl;rw[e]at hp hz hG hlen h0 ⊢;have fin2:=fun Ar cr w hw=>fin (kN g) Ar cr rfl w hw;clear fin hp hz hG h0;generalize kN g=raw at *;obtain⟨gw,gh,gx,gy,gs,p⟩:=g;dsimp only at hr hm4 hS hR ⊢;dsimp only[aQ]at hR hS ⊢;dsimp only[rG];clear hg;refine aJ func161 rfl ntmps161 rfl ⟨aE,.nil⟩ (fun _=>?_);simp only[aG];refine aB;rename_i b2 b3 b4 b8;refine lf rfl rfl rfl (S:=[]) (fun w hw ho=>hR w ⟨hr.h.go hw (aC.nil _)⟩) ?_;rintro v S' ⟨u,rfl,Ar,cr,rfl,rfl⟩;refine aB;refine bU rfl rfl rfl (fun w hw=>(fin2 Ar cr w ⟨Ro.row hw (aC.nil _) (by refine cF)⟩).1) ?_;refine aB;refine lf rfl rfl rfl (S:=[]) (fun w hw ho=>(fin2 Ar cr w ⟨Ro.row hw (aC.nil _) (by refine cF)⟩).2) ?_;rintro v S' ⟨u,rfl,An,cn,rfl,rfl⟩;obtain⟨nw,nh,nx,ny,ns,np⟩:=bX raw;dsimp only[aQ];refine aB;refine fJ [.blk b2 126 [.int .i64 gw,.int .i64 gh,.int .i64 gx,.int .i64 gy,.int .i64 gs,.slice A p.length c],.blk b8 126 [.int .i64 nw,.int .i64 nh,.int .i64 nx,.int .i64 ny,.int .i64 ns,.slice An np.length cn]] (0::1::2::3::4::5::6::7::[]) aA.au ?_;intro _;refine cE;all_goals refine bU rfl rfl rfl (fun w hw=>hS w ⟨hr.h.go hw (aC.nil _)⟩) ?_
  all_goals refine cE
  all_goals (refine eC (S':=[.row (.slice An np.length cn) 2 1 np.length (aD .i64 np)]) aA.au ?_;refine cZ;exact⟨_,rfl,An,cn,rfl,rfl⟩)
 ·have hR:=fun w hw=>aSp g A c sx sy sw sh w hw hg hx hy q1 q2 oo oo;have e:bN g ⟨3,sx,sy,sw,sh⟩=nJ g sx sy sw sh:=rfl;rw[e]at hp hz hG hlen h0 ⊢;have fin2:=fun Ar cr w hw=>fin (nJ g sx sy sw sh) Ar cr rfl w hw;clear fin hp hz hG h0;generalize nJ g sx sy sw sh=raw at *;obtain⟨gw,gh,gx,gy,gs,p⟩:=g;dsimp only at hr hm4 hS hR ⊢;dsimp only[aQ]at hR hS ⊢;dsimp only[rG];clear hg;refine aJ func161 rfl ntmps161 rfl ⟨aE,.nil⟩ (fun _=>?_);simp only[aG];refine aB;rename_i b2 b3 b4 b8;refine lf rfl rfl rfl (S:=[]) (fun w hw ho=>hR w ⟨hr.h.go hw (aC.nil _)⟩) ?_;rintro v S' ⟨u,rfl,Ar,cr,rfl,rfl⟩;refine aB;refine bU rfl rfl rfl (fun w hw=>(fin2 Ar cr w ⟨Ro.row hw (aC.nil _) (by refine cF)⟩).1) ?_;refine aB;refine lf rfl rfl rfl (S:=[]) (fun w hw ho=>(fin2 Ar cr w ⟨Ro.row hw (aC.nil _) (by refine cF)⟩).2) ?_;rintro v S' ⟨u,rfl,An,cn,rfl,rfl⟩;obtain⟨nw,nh,nx,ny,ns,np⟩:=bX raw;dsimp only[aQ];refine aB;refine fJ [.blk b2 126 [.int .i64 gw,.int .i64 gh,.int .i64 gx,.int .i64 gy,.int .i64 gs,.slice A p.length c],.blk b8 126 [.int .i64 nw,.int .i64 nh,.int .i64 nx,.int .i64 ny,.int .i64 ns,.slice An np.length cn]] (0::1::2::3::4::5::6::7::[]) aA.au ?_;intro _;refine cE;all_goals refine bU rfl rfl rfl (fun w hw=>hS w ⟨hr.h.go hw (aC.nil _)⟩) ?_
  all_goals refine cE
  all_goals (refine eC (S':=[.row (.slice An np.length cn) 2 1 np.length (aD .i64 np)]) aA.au ?_;refine cZ;exact⟨_,rfl,An,cn,rfl,rfl⟩)
def cV(g:bE):Nat→bE
 | 0=>g
 | k+1=>bX (bN (cV g k) (aW (cV g k)))
def lX(g:bE)(i:Nat):Prop:=∀j,j<i→(aW (cV g j)).kind≠0
theorem lX.up{g:bE}{i:Nat}(h:lX g i)(hk:(aW (cV g i)).kind≠0):lX g (i+1):=fun j hj=>by
 rcases Nat.lt_or_ge j i with h1|h1
 ·exact h j h1
 ·obtain rfl:j=i:=oo;exact hk
theorem lX.down{g:bE}{i j:Nat}(h:lX g i)(hj:j≤i):lX g j:=fun k hk=>h k oo
theorem aFf{g:bE}(hg:cH g):∀i,lX g i→cH (cV g i)
 | 0,_=>hg
 | i+1,h=>(aEs (aFf hg i (h.down oo)) (h i oo)).2.2.2.1
theorem aKf{g:bE}(hg:cH g):∀i:Nat,lX g i→(g.x-262144*(i:Int)≤(cV g i).x∧(cV g i).x≤g.x+262144*(i:Int))∧(g.y-262144*(i:Int)≤(cV g i).y∧(cV g i).y≤g.y+262144*(i:Int))
 | 0,_=>by show (g.x-262144*((0:Nat):Int)≤g.x∧g.x≤_)∧_;exact⟨⟨oo,oo⟩,by show _≤g.y;omega,by show g.y≤_;omega⟩
 | i+1,h=>by have h1:=aKf hg i (h.down oo);have h2:=aMx (aFf hg i (h.down oo)) (h i oo);have ex:(cV g (i+1)).x=(bN (cV g i) (aW (cV g i))).x:=rfl;have ey:(cV g (i+1)).y=(bN (cV g i) (aW (cV g i))).y:=rfl;rw[ex,ey];push_cast;omega
def yS(g:bE):Prop:=(-2305843009213693952≤g.x∧g.x≤2305843009213693952)∧(-2305843009213693952≤g.y∧g.y≤2305843009213693952)
theorem aKg{g:bE}(hg:cH g)(hn:yS g)(i:Nat)(hi:i≤4)(h:lX g i):cH (cV g i)∧(-4611686018427387904≤(cV g i).x∧(cV g i).x≤4611686018427387904)∧(-4611686018427387904≤(cV g i).y∧(cV g i).y≤4611686018427387904):=by have h1:=aKf hg i h;unfold yS at hn;exact⟨aFf hg i h,oo,oo⟩
theorem aZw(g:bE)(A:Option Addr)(c:Nat)(w:World):aF prog 160 [.agg (aQ g A c).toArray] [] w
  (fun v S'=>∃gb,v=.func (.func 209) #[] #[.pointer (some ⟨gb,0,none⟩)]∧S'=[.blk gb 126 (aQ g A c)]):=by
 obtain⟨gw,gh,gx,gy,gs,p⟩:=g;dsimp only[aQ];refine aJ func160 rfl ntmps160 rfl ⟨aE,.nil⟩ (fun _=>?_);simp only[aG];refine aB;exact aM rfl rfl aA.au ⟨_,rfl,rfl⟩
theorem aZv(lp gb:Nat)(g:bE)(A:Option Addr)(c:Nat)(w:World)(S:List HE)(I:Nat→List HE→Prop)(hg:cH g)(hfar:yS g)
  (hown:aZ (.blk gb 126 (aQ g A c)::S) w)
  (hr:bP w (bB (.blk gb 126 (aQ g A c)::S)) A g.p.length c 1 (aD .i64 g.p)) (h0:I 0 S)
  (hy:∀i S' A' c',i<4→lX g (i+1)→I i S'→∀w',aZ S' w'→aE7 w (bB (.blk gb 126 (aQ g A c)::S)) w' (bB S')→bP w' (bB S') A' (cV g i).p.length c' 1 (aD .i64 (cV g i).p) →
   qK prog lp [.agg (aQ (cV g i) A' c').toArray,.agg (rG (aW (cV g i))).toArray] S' w' (fun v S''=>v=.bool true∧I (i+1) S'')) :
  aF prog 209 [.func (.yield lp) #[] #[],.pointer (some ⟨gb,0,none⟩)] (.blk gb 126 (aQ g A c)::S) w
   (fun v S'=>v=.tuple #[]∧∃i S1 X,S'=.blk gb 126 X::S1∧i≤4∧lX g i∧(i=4∨(aW (cV g i)).kind=0)∧I i S1):=by
 refine aJ func209 rfl ntmps209 rfl hown (fun n=>?_);simp only[aG];refine dH (e:=2) (size:=1) ?_;refine aB;refine cG (X:=Nat×(Option Addr×Nat)×(Option Addr×Nat)×List Int×List HE)
  (fun q=>q.1≤4∧lX g q.1∧(q.1=0∧q.2.1=(A,c)∨q.2.1=q.2.2.1∧q.2.2.2.1=(cV g q.1).p)∧I q.1 q.2.2.2.2)
  (fun q=>[(0,.func (.yield lp) #[] #[]),(1,.pointer (some ⟨gb,0,none⟩)),(8,.int .i64 q.1)])
  (fun q=>.row (.slice q.2.2.1.1 q.2.2.2.1.length q.2.2.1.2) 2 1 q.2.2.2.1.length (aD .i64 q.2.2.2.1)::.blk gb 126 (aQ (cV g q.1) q.2.1.1 q.2.1.2)::q.2.2.2.2) (fun q=>4-q.1) (0,(A,c),(none,0),[],S)
  ⟨by show 0≤4;omega,fun j hj=>absurd hj (by show ¬j<0;omega),.inl ⟨rfl,rfl⟩,h0⟩ ⟨rfl,rfl,rfl,trivial⟩ (aA.refl _) ?_
 rintro⟨i,⟨A1,c1⟩,⟨Ap,cp⟩,xs,S1⟩ ⟨hi,hC,hA,hI⟩;dsimp only at hi hC hA hI ⊢;obtain⟨hGi,hxi,hyi⟩:=aKg hg hfar i hi hC;have hRo:∀(T H1 R1 Q:List HE) (w1:World),St w (bB (.blk gb 126 (aQ g A c)::S)) H1 w1→aC H1 T R1→aP R1 (.row (.slice Ap xs.length cp) 2 1 xs.length (aD .i64 xs)) Q→bP w1 (bB T) A1 (cV g i).p.length c1 1 (aD .i64 (cV g i).p):=by
  intro T H1 R1 Q w1 hw hs hm;rcases hA with⟨e0,e⟩ | ⟨e1,e2⟩
  ·injection e with e1 e2;subst e0 e1 e2;exact⟨hr.h.go hw hs⟩
  ·injection e1 with e3 e4;subst e2 e3 e4;exact⟨Ro.row hw hs hm⟩
 have hCh:=fun w hw=>aS7 (cV g i) A1 c1 w hw hGi hxi hyi;have hnx:cV g (i+1)=bX (bN (cV g i) (aW (cV g i))):=rfl;have hDo:=fun hk w hw=>aN0 (cV g i) (aW (cV g i)) A1 c1 w hw hGi hxi hyi (aEs hGi hk);have hY:=fun h4 hk=>hy i S1 A1 c1 h4 (hC.up hk) hI;clear hA hy;rcases Nat.lt_or_ge i 4 with h|h
 ·have hup:=fun hk=>hC.up hk;rw[← hnx]at hDo;have hY:=hY h;have hend:(aW (cV g i)).kind=0→∀X:List Value,(fun (v:Value) (S':List HE)=>v=.tuple #[]∧∃i S1 X,S'=.blk gb 126 X::S1∧i≤4∧lX g i∧(i=4∨(aW (cV g i)).kind=0)∧I i S1) (.tuple #[]) (.blk gb 126 X::S1):=fun hk X=>⟨rfl,i,S1,X,rfl,hi,hC,.inr hk,hI⟩;obtain⟨ng,hng⟩:∃x,cV g (i+1)=x:=⟨_,rfl⟩;rw[hng]at hnx hDo;generalize aW (cV g i)=ce at *;generalize cV g i=gi at *;obtain⟨sk,sx,sy,sw,sh⟩:=ce;obtain⟨gw,gh,gx,gy,gs,p⟩:=gi;dsimp only at *;dsimp only[aQ,rG]at *;refine aB;refine bU rfl rfl rfl (fun w1 hw=>hCh w1 (hRo [] _ _ _ w1 hw (aC.nil _) (by refine cF))) ?_;by_cases hk:sk=0
  ·subst hk;refine aB;exact nN rfl (aA.appT (S:=[.blk gb 126 _]) (H:=[_,_,_]) S1 (aA.cons (.there _ (.there _ (.here _ _))) (aA.nil _))) (hend rfl _)
  ·have iN:∀w0 W H t u a b,MS prog w0 W H (.binOp .neq t a b u) [.int .i64 sk,.int .i64 0] (.bool true) True:=fun _ _ _ _ _ _ _=>cD inferInstance trivial (congrArg Value.bool (by simpa using hk));refine aB;refine lf rfl rfl rfl (S:=[]) (fun w1 hw ho=>hDo hk w1 (hRo [] _ _ _ w1 hw (aC.nil _) (by refine cF))) ?_;rintro v S' ⟨u,rfl,An,cn,rfl,rfl⟩;obtain⟨nw,nh,nx,ny,ns,np⟩:=ng;have hgn:=hng.symm;dsimp only[aQ]at *;refine aB;refine lyl rfl rfl rfl (aC.preT S1 [_,_,_,_,_]) rfl (fun w1 hw ho=>hY hk w1 ho (fun _ _ _ _ h=>h.go hw (aC.preT S1 [_,_,_,_,_])) (hRo S1 _ _ _ w1 hw (aC.preT S1 [_,_,_,_,_]) (by refine cF))) ?_;rintro v S3 ⟨rfl,hI3⟩;refine aCr ?_;simp only[List.cons_append,List.nil_append];refine aB;exact aR (i+1,(An,cn),(An,cn),np,S3) ⟨h,hup hk,.inr ⟨rfl,congrArg bE.p hgn⟩,hI3⟩ (by show 4-(i+1)<4-i;omega) ⟨rfl,rfl,by simp[aI],trivial⟩ (by dsimp only;rw[hng];exact aA.appT (S:=[_,_]) (H:=[_,_,_,_,_]) S3 (aA.cons (.there _ (.here _ _)) (aA.cons (.there _ (.there _ (.there _ (.here _ _)))) (aA.nil _))))
 ·obtain rfl:i=4:=oo;refine aB;exact nN rfl (aA.appT (S:=[.blk gb 126 _]) (H:=[_,_]) S1 (aA.cons (.there _ (.here _ _)) (aA.nil _))) ⟨rfl,4,S1,_,rfl,hi,hC,.inl rfl,hI⟩
section
variable {n N:Nat} {ds:List Deferred} {w0:World} {W:Nat→Prop} {σ:List (Nat×Value)} {H:List HE} {Q:Exit→Act→World→Prop} {g0:Operand} {ps:Array Tmp} {assign body:Code} {gb:Nat} {g:bE} {A:Option Addr} {c:Nat} {S R:List HE}
theorem aR8(I:Nat→List HE→Prop)
  (hx:ev σ g0=some (.func (.func 209) #[] #[.pointer (some ⟨gb,0,none⟩)])) (hs:aC H (.blk gb 126 (aQ g A c)::S) R) (hg:cH g) (hfar:yS g)
  (hr:∀x y w1,St w0 W (x::y::H) w1→Ro w1 (bB (x::.blk gb 126 (aQ g A c)::S)) 1 (.slice A g.p.length c) g.p.length (aD .i64 g.p)) (h0:I 0 S)
  (hy:∀lp i S1 A' c',i<4→lX g (i+1)→I i S1→∀w1,aZ (.loop lp N σ ps assign body .ready none::S1) w1→aE7 w0 W w1 (bB (.loop lp N σ ps assign body .ready none::S1))→bP w1 (bB (.loop lp N σ ps assign body .ready none::S1)) A' (cV g i).p.length c' 1 (aD .i64 (cV g i).p) →
   qK prog lp [.agg (aQ (cV g i) A' c').toArray,.agg (rG (aW (cV g i))).toArray] (.loop lp N σ ps assign body .ready none::S1) w1
   (fun v S2=>v=.bool true∧∃S3,S2=.loop lp N σ ps assign body .ready none::S3∧I (i+1) S3))
  (hn:∀d i S1,i≤4→lX g i→(i=4∨(aW (cV g i)).kind=0)→I i S1→J N (mk d::ds) w0 W σ (S1++.obj d (.deferred (some []))::R) (Q .normal)):J N ds w0 W σ H ((Code.rangeFunc g0 ps assign body).wpIn Fence.wide n prog Q):=by
 refine aAd (Rp:=fun d lp pend S1=>pend=none∧∃i S2 X,S1=.blk gb 126 X::S2∧i≤4∧lX g i∧(i=4∨(aW (cV g i)).kind=0)∧I i S2) hx hs (fun d lp w1 LE hLE hw ho=>?_) ?_
 ·have hp:=aM3 LE (.blk gb 126 (aQ g A c)) S;have hr1:=hr _ _ w1 hw;rw[aBq hp]at hr1;refine aF.conv (aZv lp gb g A c w1 (LE::S) (fun i S'=>∃S1,S'=LE::S1∧I i S1) hg hfar (ho.perm hp) ⟨hr1⟩ ⟨S,rfl,h0⟩ ?_) hp.symm ?_
  ·rintro i S' A' c' hi hC ⟨S1,rfl,hI⟩ w2 ho2 hro hra;rw[← aBq hp]at hro;subst hLE;exact hy lp i S1 A' c' hi hC hI w2 ho2 (fun _ _ _ _ h=>hro _ _ _ _ (h.go hw (.cons (.here _ _) (aNt _ hs)))) hra
  ·rintro v S' ⟨-,i,S1,X,rfl,hi,hC,he,S2,rfl,hI⟩;exact⟨_,aM3 _ _ _,.ready,none,_,by rw[hLE],aE,rfl,i,S2,X,rfl,hi,hC,he,hI⟩
 ·rintro d lp pend S1 ⟨rfl,i,S2,X,rfl,hi,hC,he,hI⟩;exact⟨fun _=>jP (aA.skip (aA.refl _) _) (hn d i S2 hi hC he hI),fun c h=>by cases h⟩
theorem aR9(I:Nat→List HE→Prop){R':List HE}
  (hx:ev σ g0=some (.func (.func 209) #[] #[.pointer (some ⟨gb,0,none⟩)])) (hs:aC H (.blk gb 126 (aQ g A c)::S) R) (hg:cH g) (hfar:yS g)
  (hm:aP R (.row (.slice A g.p.length c) 2 1 g.p.length (aD .i64 g.p)) R') (h0:I 0 S)
  (hy:∀lp i S1 A' c',i<4→lX g (i+1)→I i S1→∀w1,aZ (.loop lp N σ ps assign body .ready none::S1) w1→aE7 w0 W w1 (bB (.loop lp N σ ps assign body .ready none::S1))→bP w1 (bB (.loop lp N σ ps assign body .ready none::S1)) A' (cV g i).p.length c' 1 (aD .i64 (cV g i).p) →
   qK prog lp [.agg (aQ (cV g i) A' c').toArray,.agg (rG (aW (cV g i))).toArray] (.loop lp N σ ps assign body .ready none::S1) w1
   (fun v S2=>v=.bool true∧∃S3,S2=.loop lp N σ ps assign body .ready none::S3∧I (i+1) S3))
  (hn:∀d i S1,i≤4→lX g i→(i=4∨(aW (cV g i)).kind=0)→I i S1→J N (mk d::ds) w0 W σ (S1++.obj d (.deferred (some []))::R) (Q .normal)):J N ds w0 W σ H ((Code.rangeFunc g0 ps assign body).wpIn Fence.wide n prog Q) :=
 aR8 I hx hs hg hfar (fun _ y _ hw=>Ro.row hw (.cons (.here _ _) (aNt y hs)) (.there y hm)) h0 hy hn
end
theorem aG3(s:aK)(a:bQ):aH s a=(gU s.cf++[.pointer a.ptr])++(tO s.ln++eE s.p (gQ s.cf s.w (vK s a))):=by simp only[aH,List.append_assoc,List.singleton_append];rfl
theorem pY(s:aK)(a:bQ):aH s a=(gU s.cf++(.pointer a.ptr::qY s.ln))++eE s.p (gQ s.cf s.w (vK s a)):=by simp only[aH,List.append_assoc,List.cons_append]
theorem zH(s:aK)(a:bQ):aH s a=(gU s.cf++(.pointer a.ptr::(qY s.ln++eE s.p [])))++gQ s.cf s.w (vK s a):=by simp only[aH,eE,List.append_assoc,List.cons_append,List.nil_append]
theorem aG4(s:aK)(a:bQ):aH s a=(gU s.cf++(.pointer a.ptr::(qY s.ln++eE s.p (gQ s.cf s.w []))))++(.bool s.sat::.int .i64 s.sums::(vK s a).drop 2):=by simp only[aH,eE,gQ,vK,List.append_assoc,List.cons_append,List.nil_append,List.drop]
theorem aWm(s:aK)(a:bQ):(gU s.cf++[Value.pointer a.ptr]).length=24:=rfl
theorem aAw(s:aK)(a:bQ):(gU s.cf++(.pointer a.ptr::qY s.ln)).length=44:=rfl
theorem aLr{s:aK}(h:kD s)(a:bQ):(gU s.cf++(.pointer a.ptr::(qY s.ln++eE s.p []))).length=241:=by have:=(gZ h).h;have h1:(gU s.cf).length=23:=rfl;have h2:(qY s.ln).length=20:=rfl;simp only[List.length_append,List.length_cons,eE,this,h1,h2,List.length_nil]
theorem aWn{s:aK}(h:kD s)(a:bQ):(gU s.cf++(.pointer a.ptr::(qY s.ln++eE s.p (gQ s.cf s.w [])))).length=281:=by have:=(gZ h).h;have:=(kO h).h;have h1:(gU s.cf).length=23:=rfl;have h2:(qY s.ln).length=20:=rfl;simp only[List.length_append,List.length_cons,eE,gQ,List.length_nil, *]
section
variable (g:Nat) (s:aK) (a:bQ) (w:World)
theorem aLq(x y:Int)(hown:aZ [.blk g 133 (aH s a)] w)(hL:kD s)(hx:bG .i64 x)(hy:bG .i64 y):
  aF prog 116 [.pointer (some ⟨g,281,none⟩),.int .i64 x,.int .i64 y] [.blk g 133 (aH s a)] w
   (fun v S'=>v=.int .i64 (fT x y)∧S'=[.blk g 133 (aH { s with sat:=s.sat||fU x y,sums:=IntKind.i64.wrap (s.sums+1) } a)]):=by
 have h:=bC0 g 133 _ _ s.sat s.sums x y w (by rw[← aG4 s a];exact hown) hx hy;rw[aWn hL,← aG4 s a]at h;exact h.mono fun v S' ⟨h1,h2⟩=>⟨h1,by rw[h2,aG4 { s with sat:=s.sat||fU x y,sums:=IntKind.i64.wrap (s.sums+1) }];rfl⟩
theorem aWi(dx dy:Int)(hown:aZ [.blk g 133 (aH s a)] w)(hok:kU s.p):
  aF prog 117 [.pointer (some ⟨g,44,none⟩),.int .i64 dx,.int .i64 dy] [.blk g 133 (aH s a)] w
   (fun v S'=>v=.bool (nQ s.p dx dy).2∧S'=[.blk g 133 (aH { s with p:=(nQ s.p dx dy).1 } a)]):=by
 have h:=aYd g 133 _ _ s.p dx dy w (by rw[← pY s a];exact hown) hok;rw[aAw,← pY s a]at h;exact h.mono fun v S' ⟨h1,h2⟩=>⟨h1,by rw[h2,pY { s with p:=(nQ s.p dx dy).1 }]⟩
theorem aG2(hown:aZ [.blk g 133 (aH s a)] w)(hok:kU s.p):
  aF prog 118 [.pointer (some ⟨g,44,none⟩)] [.blk g 133 (aH s a)] w
   (fun v S'=>v=.tuple #[]∧S'=[.blk g 133 (aH { s with p:=eD s.p.gap } a)]):=by
 have h:=aY7 g 133 _ _ s.p w (by rw[← pY s a];exact hown) hok;rw[aAw,← pY s a]at h;exact h.mono fun v S' ⟨h1,h2⟩=>⟨h1,by rw[h2,pY { s with p:=eD s.p.gap }]⟩
theorem aWh(hown:aZ [.blk g 133 (aH s a)] w)(hok:kU s.p):
  aF prog 110 [.pointer (some ⟨g,44,none⟩)] [.blk g 133 (aH s a)] w
   (fun v S'=>v=.int .i64 s.p.n∧S'=[.blk g 133 (aH s a)]):=by
 have h:=aYc g 133 _ _ s.p w (by rw[← pY s a];exact hown) hok;rw[aAw,← pY s a]at h;exact h
theorem aWf(z:Int)(hown:aZ [.blk g 133 (aH s a)] w)(hok:kU s.p):
  aF prog 109 [.pointer (some ⟨g,44,none⟩),.int .i64 z] [.blk g 133 (aH s a)] w
   (fun v S'=>∃b,v=.bool b∧S'=[.blk g 133 (aH { s with p:=kB s.p z } a)]):=by
 have h:=aY1 g 133 _ _ s.p z w (by rw[← pY s a];exact hown) hok;rw[aAw,← pY s a]at h;exact h.mono fun v S' ⟨b,h1,h2⟩=>⟨b,h1,by rw[h2,pY { s with p:=kB s.p z }]⟩
theorem aWl(hown:aZ [.blk g 133 (aH s a)] w)(hL:kD s)(hok:xM s.cf s.w):
  aF prog 155 [.pointer (some ⟨g,241,none⟩)] [.blk g 133 (aH s a)] w
   (fun v S'=>v=.tuple #[]∧S'=[.blk g 133 (aH { s with w:={ s.w with miss:=s.w.miss+1 } } a)]):=by
 have h:=bCp g 133 _ _ s.cf s.w w (by rw[← zH s a];exact hown) hok;rw[aLr hL,← zH s a]at h;exact h.mono fun v S' ⟨h1,h2⟩=>⟨h1,by rw[h2,zH { s with w:={ s.w with miss:=s.w.miss+1 } }]⟩
theorem aWk(z q:Int)(hown:aZ [.blk g 133 (aH s a)] w)(hL:kD s)(hok:xM s.cf s.w)(hz:0<z∧z≤1152921504606846976)(hq:0<q∧q≤1073741824):
  aF prog 158 [.pointer (some ⟨g,241,none⟩),.agg (cA z).toArray,.int .i64 q] [.blk g 133 (aH s a)] w
   (fun v S'=>v=.int .i64 (tW z q)∧S'=[.blk g 133 (aH { s with w:=nF s.cf s.w z q } a)]):=by
 have h:=bCj g 133 _ _ s.cf s.w z q w (by rw[← zH s a];exact hown) hok hz hq;rw[aLr hL,← zH s a]at h;exact h.mono fun v S' ⟨h1,h2⟩=>⟨h1,by rw[h2,zH { s with w:=nF s.cf s.w z q }]⟩
theorem aWj(f:lM)(hown:aZ [.blk g 133 (aH s a)] w)(hok:s.ln.ok)(ha : -2147483648≤f.a∧f.a<2147483648):
  aF prog 64 [.pointer (some ⟨g,24,none⟩),.agg (dU f).toArray] [.blk g 133 (aH s a)] w
   (fun v S'=>v=.tuple #[.int .i64 (s.ln.take f.kind f.seq f.time f.a).2.1,.int .i64 (s.ln.take f.kind f.seq f.time f.a).2.2.1,.bool (s.ln.take f.kind f.seq f.time f.a).2.2.2]∧S'=[.blk g 133 (aH { s with ln:=(s.ln.take f.kind f.seq f.time f.a).1 } a)]):=by
 have h:=bBh g 133 (gU s.cf++[.pointer a.ptr]) _ s.ln f w (by rw[← aG3 s a];exact hown) hok ha;rw[aWm,← aG3 s a]at h;exact h.mono fun v S' ⟨h1,h2⟩=>⟨h1,by rw[h2,aG3 { s with ln:=(s.ln.take f.kind f.seq f.time f.a).1 }]⟩
end
def aE5(out:List lM)(v:Value)(S:List HE):Prop:=∃A c,v=.slice A out.length c∧S=[.row (.slice A out.length c) 59 6 out.length (aO dU out)]
theorem aSd(s:aK)(A:Option Addr)(c:Nat)(w:World)(hr:bP w (bB []) A s.g.p.length c 1 (aD .i64 s.g.p))(hg:cH s.g)(hx : -4611686018427387904≤s.g.x∧s.g.x≤4611686018427387904)(hy : -4611686018427387904≤s.g.y∧s.g.y≤4611686018427387904):
  aF prog 105 [.agg (aQ s.g A c).toArray,.agg #[.int .i64 s.x,.int .i64 s.y],.int .u16 s.seq,.int .u32 s.time] [] w
   (fun v S'=>v=.tuple #[.agg (dU ((qQ s).getD ⟨0,0,0,0,0,0⟩)).toArray,.bool (qQ s).isSome]∧S'=[]) :=
 (aSb s A c w hr hg hx hy).mono (by rintro v S' ⟨⟨f,hf,rfl⟩ | ⟨hf,rfl⟩,rfl⟩<;>rw[hf]<;>exact⟨rfl,rfl⟩)
theorem vJ(g k:Nat)(s:aK)(a:bQ)(w:World)(hown:aZ [.blk g 133 (aH s a)] w)(hN:cS s k)(hk:k≤16777217)(hr:bP w (bB [.blk g 133 (aH s a)]) a.Ag s.g.p.length a.cg 1 (aD .i64 s.g.p)):
  aF prog 63 [.pointer (some ⟨g,0,none⟩)] [.blk g 133 (aH s a)] w (fun v S'=>∃So,aE5 (cR s).2 v So∧S'=So++[.blk g 133 (aH (cR s).1 a)]):=by
 have hF:=fun w ho hr=>aK2 g k s a w ho hN oo hr;have hfe:pP { s with seq:=(s.seq+1)%65536 } = pP s:=rfl;have hT:cR s=({ s with seq:=(s.seq+1)%65536 },if s.mode=2∧pP s=0 then (match qQ { s with seq:=(s.seq+1)%65536 } with|some c=>[⟨7,(s.seq+1)%65536,s.time,s.mode,pP s,0⟩,c]|none=>[⟨7,(s.seq+1)%65536,s.time,s.mode,pP s,0⟩])else [⟨7,(s.seq+1)%65536,s.time,s.mode,pP s,0⟩]):=by unfold cR;dsimp only;rw[hfe];rfl
 have hC:=fun hd (w:World) hw=>aSd { s with seq:=(s.seq+1)%65536 } a.Ag a.cg w hw (hN.g hd).1 (by have:=(hN.g hd).2.1;dsimp only;omega) (by have:=(hN.g hd).2.2;dsimp only;omega);have i1:=gZ hN.nvl;have i2:=kO hN.nvl;have hmd:=hN.mode;have hsq:=hN.seq;rw[hT];generalize pP s=fl at *;generalize qQ { s with seq:=(s.seq+1)%65536 } = cr at *;have iV:=valid_cv s.mode fl;have iT:=tell_cv s.mode fl ((s.seq+1)%65536) s.time;have iw:IntKind.u16.wrap (s.seq+1)=(s.seq+1)%65536:=by simp[IntKind.wrap,IntKind.signed,IntKind.bits]
 refine aJ func63 rfl ntmps63 rfl hown (fun _=>?_);simp only[aG];by_cases hv:s.mode=2∧fl=0
 ·rw[decide_eq_true hv]at iV;rw[if_pos hv];have hC2:=hC (by rw[hv.1];rfl);clear hC;refine aB;refine lf rfl rfl rfl (S:=[.blk g 133 (aH s a)]) (fun w hw ho=>hF w ho ⟨hr.h.go hw aC.au⟩) ?_;rintro v S' ⟨rfl,rfl⟩;refine aB;rw[iw];refine dM _ [true,true,true,true,true,true,true,true,true,true,true,true,true,false,false,false] [13,14,15] (aA.refl _) rfl od bD ?_;repeat' (first|refine fN rfl rfl rfl ?_|(refine fM rfl rfl rfl ?_ ?_;(next=>first|exact trivial|omega))|refine fC ?_)
  refine fX ?_;intro _;refine cE;rename_i b;refine lO (X:=Nat) (fun _=>True) (fun q=>[(4,.slice (some ⟨b,0,none⟩) 1 1),(5,.pointer (some ⟨q,0,none⟩)),(6,.bool cr.isSome)])
   (fun q=>[.blk q 59 (dU (cr.getD ⟨0,0,0,0,0,0⟩)),.row (.slice (some ⟨b,0,none⟩) 1 1) 59 6 1 (aO dU [⟨7,(s.seq+1)%65536,s.time,s.mode,fl,0⟩]),.blk g 133 (aH { s with seq:=(s.seq+1)%65536 } a)]) ?_ ?_
  ·refine dM [.blk g 133 (aH { s with seq:=(s.seq+1)%65536 } a)] [true,true,true,true,true,true,true,true,true,true,true,true,true,true,true,true,false,false,false,false,false,false,false] [16,17,18,19,20,21,22] aA.au rfl od bD ?_;repeat' (first|refine fN rfl rfl rfl ?_|(refine fM rfl rfl rfl ?_ ?_;(next=>first|exact trivial|omega))|refine fC ?_)
   refine fX ?_;intro _;refine cE;all_goals refine bU rfl rfl rfl (fun w hw=>hC2 w ⟨hr.h.go hw (aC.nil _)⟩) ?_
   all_goals refine cE
   all_goals (rename_i bq;exact aR bq trivial trivial ⟨rfl,rfl,rfl,trivial⟩ (aA.cons (.here _ _) (aA.cons (.here _ _) (aA.cons (.here _ _) (aA.nil _)))))
  ·rintro q -;cases cr with
   | none =>
    refine aB;exact aM (S':=[.row (.slice (some ⟨b,0,none⟩) 1 1) 59 6 1 (aO dU [⟨7,(s.seq+1)%65536,s.time,s.mode,fl,0⟩]),.blk g 133 (aH { s with seq:=(s.seq+1)%65536 } a)]) rfl rfl (aA.cons (.there _ (.here _ _)) (aA.cons (.there _ (.here _ _)) (aA.nil _))) ⟨[_],⟨_,_,rfl,rfl⟩,rfl⟩
   | some cc2 =>
    have i3:tD dU [.int .i64 cc2.kind,.int .u16 cc2.seq,.int .u32 cc2.time,.int .i32 cc2.a,.int .i32 cc2.b,.int .i32 cc2.c] cc2:=⟨rfl⟩;dsimp only[Option.getD_some,Option.isSome_some];refine aB;rename_i A2 c2;exact aM (S':=[.row (.slice A2 2 c2) 59 6 2 (aO dU ([⟨7,(s.seq+1)%65536,s.time,s.mode,fl,0⟩]++[cc2])),.blk g 133 (aH { s with seq:=(s.seq+1)%65536 } a)]) rfl rfl (aA.cons (.there _ (.there _ (.here _ _))) (aA.cons (.there _ (.there _ (.here _ _))) (aA.nil _))) ⟨[_],⟨_,_,rfl,rfl⟩,rfl⟩
 ·rw[decide_eq_false hv]at iV;rw[if_neg hv];clear hC;refine aB;refine lf rfl rfl rfl (S:=[.blk g 133 (aH s a)]) (fun w hw ho=>hF w ho ⟨hr.h.go hw aC.au⟩) ?_;rintro v S' ⟨rfl,rfl⟩;refine aB;rw[iw];refine dM _ [true,true,true,true,true,true,true,true,true,true,true,true,true,false,false,false] [13,14,15] (aA.refl _) rfl od bD ?_;repeat' (first|refine fN rfl rfl rfl ?_|(refine fM rfl rfl rfl ?_ ?_;(next=>first|exact trivial|omega))|refine fC ?_)
  refine fX ?_;intro _;refine cE;rename_i b;exact aM (S':=[.row (.slice (some ⟨b,0,none⟩) 1 1) 59 6 1 (aO dU [⟨7,(s.seq+1)%65536,s.time,s.mode,fl,0⟩]),.blk g 133 (aH { s with seq:=(s.seq+1)%65536 } a)]) rfl rfl (aA.cons (.here _ _) (aA.cons (.here _ _) (aA.nil _))) ⟨[_],⟨_,_,rfl,rfl⟩,rfl⟩
end Go.Proofs.YtbhchphfmhmabaaGreat
namespace Go.Proofs.YtbhchphfmhmabaaGreat
open Go.RowKit
theorem aVt{F:Fence}{n:Nat}{P:Program}{w0:World}{W:Nat→Prop}{HL:List HE}{Q:Exit→Act→World→Prop}{ops:Array Oper}{mask:List Bool}[hF:aU F]{i d:Nat}{o:Oper}{v:Value}{L:Nat→Option Value}
  (hio:ops[i]? = some o) (hd:o.dst=some d)
  (hpl:∀(j:Nat) (o':Oper),ops[j]? = some o'→gK o'=true)
  (hoth:∀(j:Nat) (o':Oper),j≠i→ops[j]? = some o'→o'.dst≠some d∧(d∈o'.looksAt ops→cN ops j i=true))
  (hval:∀a:Act,(∀t∈o.looksAt ops,∀u,L t=some u→a.tmps[t]? = some u)→(Region.wanted o (yielded ops a.tmps)=true∧∀w,St w0 W HL w→(execOp a.eval o).run P w=.ok (.value v) w)∨(Region.wanted o (yielded ops a.tmps)=false∧v=undef)) :
  ∀(m:Nat) (rest:List Nat) (a:Act) (w:World),i∈rest→rest.length≤m+1→(∀j∈rest,cN ops j i=true∨eN ops mask j=false)→(∀j∈rest,∀t,cW ops j=some t→t ∉ o.looksAt ops)→St w0 W HL w →
   (∀t∈o.looksAt ops,∀u,L t=some u→a.tmps[t]? = some u)→cC F n P w0 W HL ops mask Q m (rest.erase i) (a.put (some d) v) w→cC F n P w0 W HL ops mask Q (m+1) rest a w:=by
 have hnd:∀(j:Nat) (o':Oper),ops[j]? = some o'→∀c,o'.op≠.defer c:=by intro j o' h c e;have:=hpl j o' h;unfold gK at this;rw[e]at this;cases this
 have hme:∀(m:Nat) (rest:List Nat) (a:Act) (w:World),St w0 W HL w→(∀t∈o.looksAt ops,∀u,L t=some u→a.tmps[t]? = some u)→cC F n P w0 W HL ops mask Q m (rest.erase i) (a.put (some d) v) w →
   wpListIn F n P ops (nq fun _ b' w'=>(eN ops mask i=true∨St w0 W HL w')∧cC F n P w0 W HL ops mask Q m (rest.erase i) b' w') [o] a w:=by
  intro m rest a w hst ha h;simp only[wpListIn];rcases hval a ha with⟨hw1,hw2⟩ | ⟨hw1,hw2⟩
  ·rw[if_pos hw1];refine⟨fun f _=>hF.out.fn f,?_⟩;rw[Oper.semAt_plain F _ _ (hnd i o hio),hw2 w hst,Oper.uponIn_value,hd];exact⟨.inr hst,h⟩
  ·rw[if_neg (by rw[hw1];simp)];refine⟨fun f _=>hF.out.fn f,?_⟩;rw[hd];subst hw2;exact⟨.inr hst,h⟩
 intro m
 induction m with
 | zero =>
  intro rest a w hi hlen hlit hdst hst ha h;refine⟨fun e=>(by rw[e]at hi;cases hi),fun j hj hr=>?_⟩;have hji:j=i:=by
   match rest,hlen,hi,hj with
   | [x],_,hi,hj=>rw[List.mem_singleton.1 hi,List.mem_singleton.1 hj]
  subst hji;have hopsAt:cQ ops [j]=[o]:=by simp[cQ,hio]
  rw[hopsAt];exact hme 0 rest a w hst ha h
 | succ m ih =>
  intro rest a w hi hlen hlit hdst hst ha h;refine⟨fun e=>(by rw[e]at hi;cases hi),fun j hj hr=>?_⟩;by_cases hji:j=i
  ·subst hji;have hopsAt:cQ ops [j]=[o]:=by simp[cQ,hio]
   rw[hopsAt];exact hme (m+1) rest a w hst ha h
  ·have hwp:=h.2 j ((List.mem_erase_of_ne hji).2 hj) (fun k hk=>hr k (List.mem_of_mem_erase hk));cases hjo:ops[j]? with
   | none =>
    have hopsAt:cQ ops [j]=[]:=by simp[cQ,hjo]
    rw[hopsAt]at hwp ⊢;obtain⟨hob,hwp⟩:=hwp;refine⟨hob,ih (rest.erase j) a w ((List.mem_erase_of_ne (fun e=>hji e.symm)).2 hi) (by have:=List.length_erase_of_mem hj;omega) (fun k hk=>hlit k (List.mem_of_mem_erase hk)) (fun k hk=>hdst k (List.mem_of_mem_erase hk)) hst ha ?_⟩;have:=hwp;rw[List.erase_comm]at this;exact this
   | some o' =>
    have hopsAt:cQ ops [j]=[o']:=by simp[cQ,hjo]
    rw[hopsAt]at hwp ⊢;obtain⟨hne,hlk⟩:=hoth j o' hji hjo;have hnl:d ∉ o'.looksAt ops:=fun hm=>by have:=hr i hi;rw[hlk hm]at this;cases this
    have hagree:∀t∈o'.looksAt ops,a.tmps[t]? = (a.put (some d) v).tmps[t]?:=by intro t ht;simp only[Act.put,Array.getElem?_setIfInBounds];rw[if_neg (fun e=>hnl (by rw[e];exact ht))]
    have hwt:Region.wanted o' (yielded ops a.tmps)=Region.wanted o' (yielded ops (a.put (some d) v).tmps):=by
     unfold Region.wanted;cases hg:o'.guard with
     | none=>rfl
     | some g =>
      obtain⟨j',c⟩:=g;simp only[yielded];cases hj:(ops[j']?).bind (·.dst) with
      | none=>rfl
      | some t =>
       have:t∈o'.looksAt ops:=by unfold Oper.looksAt;rw[hg];exact List.mem_append_right _ (by simp[hj])
       simp only[Option.bind_some,hagree t this]
    have hev:execOp a.eval o'=execOp (a.put (some d) v).eval o':=by
     refine execOp_congr o' (fun cs c e=>?_) fun x hx=>yZ fun t e=>?_
     ·have:=hpl j o' hjo;unfold gK at this;rw[e]at this;cases this
     ·subst e;exact hagree t (List.mem_append_left _ (List.mem_filterMap.2 ⟨.tmp t,by simpa using hx,rfl⟩))
    have hnext:∀(ds:List Deferred) (u:Value) (w':World),wpListIn F n P ops (nq fun _ b'' w''=>(eN ops mask j=true∨St w0 W HL w'')∧cC F n P w0 W HL ops mask Q m ((rest.erase i).erase j) b'' w'') [] (({ (a.put (some d) v) with defers:=ds }:Act).put o'.dst u) w' →
      wpListIn F n P ops (nq fun _ b'' w''=>(eN ops mask j=true∨St w0 W HL w'')∧cC F n P w0 W HL ops mask Q (m+1) (rest.erase j) b'' w'') [] (({ a with defers:=ds }:Act).put o'.dst u) w':=by
     intro ds u w' hh;obtain⟨h1,h2⟩:=hh;have hst':St w0 W HL w':=by
      rcases h1 with h1|h1
      ·rcases hlit j hj with h3|h3
       ·rw[hr i hi]at h3;cases h3
       ·rw[h3]at h1;cases h1
      ·exact h1
     refine⟨h1,ih (rest.erase j) _ w' ((List.mem_erase_of_ne (fun e=>hji e.symm)).2 hi) (by have:=List.length_erase_of_mem hj;omega) (fun k hk=>hlit k (List.mem_of_mem_erase hk)) (fun k hk=>hdst k (List.mem_of_mem_erase hk)) hst' (fun t ht u' hu'=>?_) ?_⟩
     ·cases hdj:o'.dst with
      | none=>exact ha t ht u' hu'
      | some e =>
       have hne2:e≠t:=fun hh=>hdst j hj e (by simp[cW,hjo,hdj]) (by rw[hh];exact ht);simp only[Act.put,Array.getElem?_setIfInBounds];rw[if_neg hne2];exact ha t ht u' hu'
     ·rw[List.erase_comm,aGo _ _ _ _ _ hne];exact h2
    simp only[wpListIn]at hwp ⊢;rw[hwt];by_cases hw:Region.wanted o' (yielded ops (a.put (some d) v).tmps)=true
    ·rw[if_pos hw]at hwp ⊢;refine⟨fun f _=>hF.out.fn f,?_⟩;have h2:=hwp.2;rw[Oper.semAt_plain F _ _ (hnd j o' hjo),← hev]at h2;rw[Oper.semAt_plain F _ _ (hnd j o' hjo)];exact wX h2 (fun u w' hh=>hnext a.defers u w' hh) (fun x w' hh=>hnext (x::a.defers) undef w' hh)
    ·rw[if_neg hw]at hwp ⊢;exact⟨fun f _=>hF.out.fn f,hnext a.defers undef w hwp.2⟩
instance {P:Program}(s f off b q r:Nat)(x:Operand)[hfa:Fa P s f off][hr:nG q off r]:PV P (.fieldAddr s x f) [.pointer (some ⟨b,q,none⟩)] (.pointer (some ⟨b,r,none⟩)) True:=⟨by rintro _ ρ ⟨dst,op',ty,pos,aft,gd⟩ rfl h w;obtain⟨fs,fld,i,h1,h2,h3,h4,h5⟩:=hfa.h;rw[← hr.h];simp[execOp,pW h,Instr.fieldAt,run_underlying h1,h2,Instr.sureAddr,fieldPlace,sizeOf,typeInfo,h3,h4,h5,pL]⟩
instance {P:Program}(x:Operand)(p:Addr):PV P (.nilCheck x) [.pointer (some p)] (.pointer (some p)) True:=⟨by rintro _ ρ ⟨dst,op',ty,pos,aft,gd⟩ rfl h w;simp[execOp,pW h,Instr.sureAddr]⟩
def aLe(ops:Array Oper)(mask:List Bool)(rest:List Nat)(i:Nat):Bool:=rest.all fun j=>cN ops j i||!eN ops mask j
section
variable {F:Fence} {n:Nat} {P:Program} {N:Nat} {ds:List Deferred} {w0:World} {W:Nat→Prop} {σ:List (Nat×Value)} {H HL:List HE} {Q:Exit→Act→World→Prop} {ops:Array Oper} {m:Nat} {rest rest':List Nat} {mask:List Bool}
theorem aVr{i d:Nat}{o:Oper}{v:Value}[hF:aU F][hV:mA ops](hio:ops.toList[i]? = some o)(hd:o.dst=some d)(hin:i∈rest)(hok:aB7 rest o.after=true)(hlo:aLe ops mask rest i=true)(hlen:Nat.ble rest.length (m+1)=true)
  (hq:(bT ops σ o=some true∧LQ P w0 W HL σ o v)∨(bT ops σ o=some false∧v=undef)) (hdN:Nat.blt d N=true) (hs:aA HL H) (he:rest.erase i=rest')
  (h:J N ds w0 W ((d,v)::σ) H (cC F n P w0 W HL ops mask Q m rest')):J N ds w0 W σ H (cC F n P w0 W HL ops mask Q (m+1) rest):=by
 intro a w ha hst;subst he;rw[Array.getElem?_toList]at hio;have hpos:0<ops.size:=by have:=(Array.getElem?_eq_some_iff.1 hio).1;omega
 refine aVt (v:=v) (L:=aI σ) hio hd (fun j o' hj=>(hV.at_ hj).1) (fun j o' hne hj=>((hV.at_ hio).2.2 d hd).2 j o' hne hj) (fun a' ha'=>?_) m rest a w hin (Nat.le_of_ble_eq_true hlen) (fun j hj=>by
   have h1:=List.all_eq_true.1 hlo j hj;cases hb:cN ops j i with
   | true=>exact .inl rfl
   | false=>rw[hb]at h1;exact .inr (by simpa using h1)) (fun j hj t ht hm=>?_) (hst.sub hs) (fun t _ u hu=>ha.at_ t u hu) ?_
 ·rcases hq with⟨hw,hl⟩ | ⟨hw,hv⟩
  ·refine .inl ⟨vL ha' hw,fun w' hw'=>hl _ (fun x hx u hu=>?_) w' hw'⟩;cases x with
   | tmp t =>
    have:=ha' t (List.mem_append_left _ (List.mem_filterMap.2 ⟨.tmp t,hx,rfl⟩)) u hu;simp[Act.eval,this]
   | const u=>simpa [ev,Act.eval] using hu
   | global g=>simpa [ev,Act.eval] using hu
   | func f=>simpa [ev,Act.eval] using hu
  ·exact .inr ⟨vL ha' hw,hv⟩
 ·unfold cW at ht;cases hjo:ops[j]? with
  | none=>rw[hjo]at ht;cases ht
  | some o' =>
   rw[hjo]at ht;have ht':o'.dst=some t:=ht;by_cases hji:j=i
   ·subst hji;rw[hio]at hjo;injection hjo with e;subst e;exact((hV.at_ hio).2.2 t ht').1 hm
   ·have h1:=((hV.at_ hjo).2.2 t ht').2 i o (fun e=>hji e.symm) hio;have h2:=h1.2 hm;unfold cN at h2;rw[hio]at h2;have h3:=List.all_eq_true.1 hok j hj;simp only at h2;rw[h2]at h3;simp at h3
 ·exact h _ _ (ha.put d v (by simpa using hdN)) hst
theorem pG(k:Nat){i d:Nat}{op:Op}{ty:TypeId}{pos:String}{aft:Array Edge}{gd:Option (Nat×Bool)}{vs:List Value}{v:Value}{c:Prop}[hF:aU F][hV:mA ops](hk:rest[k]? = some i)(hio:ops.toList[i]? = some ⟨some d,op,ty,pos,aft,gd⟩)(hw:bT ops σ ⟨some d,op,ty,pos,aft,gd⟩=some true)(hv:vals σ op.operands.toList=some vs)[hp:LV P w0 W HL op vs v c](hdN:Nat.blt d N=true)(hlen:Nat.ble rest.length (m+1)=true)[he:xD rest k rest'](hc:c)
  (hok:(aB7 rest aft&&rest.erase i==rest.eraseIdx k&&aLe ops mask rest i)=true) (hs:aA HL H) (h:J N ds w0 W ((d,v)::σ) H (cC F n P w0 W HL ops mask Q m rest')):J N ds w0 W σ H (cC F n P w0 W HL ops mask Q (m+1) rest):=by
 simp only[Bool.and_eq_true,beq_iff_eq]at hok;exact aVr hio rfl (aG0 hk) hok.1.1 hok.2 hlen (.inl ⟨hw,aFx (vs:=vs) (c:=c) hv hc⟩) hdN hs (hok.1.2.trans he.h) h
theorem vI(k i:Nat){d:Nat}{op:Op}{ty:TypeId}{pos:String}{aft:Array Edge}{gd:Option (Nat×Bool)}{vs:List Value}{v:Value}{c:Prop}[hF:aU F](hio:ops.toList[i]? = some ⟨some d,op,ty,pos,aft,gd⟩)(hok:aGj ops mask rest i d ⟨some d,op,ty,pos,aft,gd⟩=true)(hlen:Nat.ble rest.length (m+1)=true)
  (hw:bT ops σ ⟨some d,op,ty,pos,aft,gd⟩=some true) (hv:vals σ op.operands.toList=some vs) [hp:PV P op vs v c] [he:xD rest k rest'] (hc:c) (hdN:Nat.blt d N=true) (hs:aA HL H) (hee:(rest.erase i==rest.eraseIdx k)=true)
  (h:J N ds w0 W ((d,v)::σ) H (cC F n P w0 W HL ops mask Q m rest')):J N ds w0 W σ H (cC F n P w0 W HL ops mask Q (m+1) rest):=by
 have e:rest.erase i=rest':=(by simpa using hee:rest.erase i=rest.eraseIdx k).trans he.h;subst e;exact bBe i hio hok hlen hw hv hc hdN hs h
theorem aQy{id:Nat}{l:List Oper}(HL:List HE)(r:List Nat)[hF:aU F](hs:aA HL H)
  (h:mA l.toArray→J N ds w0 W σ H (cC F n P w0 W HL l.toArray (List.replicate l.toArray.size false) Q r.length r))
  (hr:(oF l.toArray (List.replicate l.toArray.size false)==r)=true:=by decide +kernel) (hmx:P.follows .mixedOrders=true:=by decide) (hok:sL l.toArray (List.replicate l.toArray.size false)=true:=by decide +kernel) (hp:(fH l.toArray (List.replicate l.toArray.size false)).isEmpty=true:=by decide +kernel) (hk:(Nat.ble l.toArray.size 300&&wR l.toArray)=true:=by decide +kernel) :
  J N ds w0 W σ H ((Code.region id l.toArray true).wpIn F n P Q) :=
 dM HL _ r hs (by simpa using hr) hmx hok (by simp only[Bool.and_eq_true]at hk;rw[List.isEmpty_iff.1 hp];exact fC (h ⟨hk.2,Nat.le_of_ble_eq_true hk.1⟩))
theorem bBf(mask':List Bool)(h:J N ds w0 W σ H (cC F n P w0 W HL ops mask' Q m rest)):J N ds w0 W σ H (cC F n P w0 W HL ops (List.replicate ops.size false) Q m rest) :=
 fun a w ha hw=>aOv (fun i _=>aLa i) m rest a w (h a w ha hw)
end
