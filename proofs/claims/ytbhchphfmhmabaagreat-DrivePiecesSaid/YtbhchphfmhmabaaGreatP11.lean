import Derived.Test.YtbhchphfmhmabaaGreatP08
import Derived.Test.YtbhchphfmhmabaaGreatP10
set_option maxHeartbeats 512000000
set_option maxRecDepth 4000
set_option linter.unusedVariables false
set_option linter.unusedSimpArgs false
namespace Go.Proofs.YtbhchphfmhmabaaGreat
open Go.RowKit _root_.Go.Proofs.Tryz
def jL(xs:List Int)(k:Nat):List Bool:=xs.flatMap fun x=>lE (kK x) k
def eZ(xs:List Int):List Bool:=gW (fY xs) 5++jL xs (fY xs)
def sZ(xs:List Int):Prop:=∀x∈xs,kK x<131072
theorem wE(xs:List Int)(k:Nat):(jL xs k).length=gT xs k:=by unfold jL gT;rw[List.length_flatMap];congr 1;apply List.map_congr_left;intro x _;exact aJa _ _
theorem aJc(xs:List Int)(x:Int)(k:Nat):jL (xs++[x]) k=jL xs k++lE (kK x) k:=by simp[jL]
theorem uK(xs:List Int):fY xs≤16:=aQh xs 16
theorem aTl{x y:Int}(h:kK x=kK y):x=y:=(aTj x y).1 (by rw[← xT,← xT,h])
theorem aC5{ys:List Int}{k:Nat}: ∀(zs xs:List Int) (q:Nat),eX ys q (jL zs k)→eX ys q (jL xs k)→zs.length≤xs.length→sZ zs→sZ xs→xs.take zs.length=zs
 | [],xs,q,_,_,_,_,_=>by simp
 | z::zs,[],q,_,_,h,_,_=>by simp at h
 | z::zs,x::xs,q,h1,h2,hl,f1,f2=>by have e1:jL (z::zs) k=lE (kK z) k++jL zs k:=rfl;have e2:jL (x::xs) k=lE (kK x) k++jL xs k:=rfl;rw[e1,gG]at h1;rw[e2,gG]at h2;obtain rfl:=aTl (aSa (f1 z aE) (f2 x aE) h1.1 h2.1);rw[List.length_cons,List.take_succ_cons,aC5 zs xs _ h1.2 h2.2 (by simpa using hl) (fun y hy=>f1 y (by simp[hy])) (fun y hy=>f2 y (by simp[hy]))]
theorem aCi{ys:List Int}{p x y:Nat}(hx:x<32)(hy:y<32)(h1:eX ys p (gW x 5))(h2:eX ys p (gW y 5)):x=y:=by have e1:=(oG.1 h1).2;have e2:=(oG.1 h2).2;rw[e1]at e2;omega
attribute [local irreducible] OJ J bM Code.wpIn wpListIn Oper.wpIn bodyPost CallsIn aF
theorem bAd(g c:Nat)(A:Option Addr)(bs:List Bool)(Al:Option Addr)(cl:Nat)(xs:List Int)(w:World)(hown:aZ (Wr g A c bs) w)(hr:bP w (bB (Wr g A c bs)) Al xs.length cl 1 (aD .i32 xs))(hx:xE xs)(hm:xs.length<1000000)(hb:bs.length<100000000):
  aF prog 135 [.pointer (some ⟨g,0,none⟩),.slice Al xs.length cl] (Wr g A c bs) w (fun v S'=>v=.tuple #[]∧∃A' c',S'=Wr g A' c' (bs++eZ xs)):=by
 have hk:=uK xs;refine uR func135 rfl ntmps135 rfl hown (fun n=>?_);simp only[aG];refine aX;rename_i b2;refine bU rfl rfl rfl (fun w1 hw=>aIk Al cl xs w1 ⟨hr.h.go hw (aC.nil _)⟩ hx hm) ?_;refine aX;rename_i b4;refine fO rfl rfl (aC.cons (.there _ (.there _ (.here _ _))) (aC.cons (.there _ (.there _ (.here _ _))) (aC.nil _))) rfl (fun w hw ho=>aG8 g c A bs (fY xs) 5 w ho oo oo oo) ?_;rintro v S' ⟨rfl,A1,c1,rfl⟩;refine aX;refine fO rfl rfl (aC.nil _) rfl (fun w hw ho=>aK6 _ _ _ w) ?_;rintro v S' ⟨g3,rfl,rfl⟩;refine aX;have hbl:=aA8 xs (fY xs) hk;refine aAd (S0:=.blk g3 167 [.slice Al xs.length cl]::.blk b4 3 [.int .i64 (fY xs)]::.blk b2 234 [.pointer (some ⟨g,0,none⟩)]::Wr g A1 c1 (bs++gW (fY xs) 5))
  (Rp:=fun D l pend S1=>pend=none∧∃A2 c2,S1=.blk g3 167 [.slice Al xs.length cl]::.blk b4 3 [.int .i64 (fY xs)]::.blk b2 234 [.pointer (some ⟨g,0,none⟩)]::Wr g A2 c2 (bs++eZ xs)) rfl (aC.cons (.here _ _) (aC.cons (.there _ (.there _ (.here _ _))) (aC.cons (.there _ (.there _ (.here _ _))) (aC.cons (.here _ _) (aC.cons (.here _ _) (aC.nil _)))))) (fun D l w1 LE hLE hw ho=>?_) ?_
 ·have hro:=hr.h.go hw (aC.cons (.there _ (.there _ (.here _ _))) (aC.cons (.here _ _) (aC.cons (.there _ (.there _ (.there _ (.here _ _)))) (aC.cons (.there _ (.there _ (.there _ (.here _ _)))) (aC.cons (.there _ (.here _ _)) (aC.cons (.there _ (.here _ _)) (aC.nil _)))))));refine aF.conv (aK5 l g3 cl Al xs w1 (LE::.blk b4 3 [.int .i64 (fY xs)]::.blk b2 234 [.pointer (some ⟨g,0,none⟩)]::Wr g A1 c1 (bs++gW (fY xs) 5))
   (fun i S=>∃A2 c2,S=LE::.blk b4 3 [.int .i64 (fY xs)]::.blk b2 234 [.pointer (some ⟨g,0,none⟩)]::Wr g A2 c2 (bs++gW (fY xs) 5++jL (xs.take i) (fY xs)))
   (ho.perm (List.Perm.swap _ _ _)) ⟨hro⟩ hx oo ⟨A1,c1,by simp[jL]⟩ ?_) (List.Perm.swap _ _ _) ?_
  ·rintro i S1 hi ⟨A2,c2,rfl⟩ w2 ho2;have hxi:=hx i hi;have hfl:=aK4 _ hxi.1 hxi.2;have hcl:=wE (xs.take i) (fY xs);have hb2:=aA8 (xs.take i) (fY xs) hk;rw[List.length_take]at hb2;have hsn:jL (xs.take (i+1)) (fY xs)=jL (xs.take i) (fY xs)++lE (kK (xs.getD i 0)) (fY xs):=by rw[List.take_succ_eq_append_getElem hi,aJc];simp[List.getD_eq_getElem?_getD,hi]
   subst hLE;refine uB (N:=23) ho2 rfl aE (fun n=>?_);simp only[over];refine aX;refine aEl ?_;refine aX;refine fO rfl rfl (aC.cons (.there _ (.there _ (.there _ (.here _ _)))) (aC.cons (.there _ (.there _ (.there _ (.here _ _)))) (aC.nil _))) rfl (fun w hw ho=>aYk g c2 A2 _ (kK (xs.getD i 0)) (fY xs) w ho (by simp[rA,hcl];omega) hfl hk) ?_;rintro v S' ⟨rfl,A3,c3,rfl⟩;refine aX;refine jP (H':=_::_::_::Wr g A3 c3 _) (aA.cons (.there _ (.there _ (.here _ _))) (aA.cons (.there _ (.there _ (.here _ _))) (aA.cons (.there _ (.there _ (.here _ _))) (aA.cons (.here _ _) (aA.cons (.here _ _) (aA.nil _)))))) ?_;refine aEn (aA.refl _) ⟨rfl,A3,c3,?_⟩;rw[hsn,List.append_assoc _ (jL _ _)]
  ·rintro v S' ⟨-,S1,rfl,A2,c2,rfl⟩;rw[List.take_of_length_le (Nat.le_refl _)];exact⟨_,List.Perm.swap _ _ _,.ready,none,_,by rw[hLE],aE,rfl,A2,c2,by simp[eZ]⟩
 ·rintro D l pend S1 ⟨rfl,A2,c2,rfl⟩;refine⟨fun _=>?_,fun c h=>by cases h⟩;refine aX;exact aUz (Ds:=[D]) (S':=Wr g A2 c2 (bs++eZ xs)) rfl (aA.skip (aA.skip (aA.skip (aA.refl _) _) _) _) ⟨rfl,A2,c2,rfl⟩ .normal (.inl rfl)
def aPe(g c:Nat)(A:Option Addr)(ys:List Int)(p n:Nat)(v:Value)(S':List HE):Prop :=
 ∃(xs:List Int) (Ax:Option Addr) (cx p':Nat) (ok wr:Bool),v=.tuple #[.slice Ax xs.length cx,.bool ok]∧S'=.row (.slice Ax xs.length cx) 21 1 xs.length (aD .i32 xs)::Rd g A c ys p' wr∧p'≤8*ys.length ∧
  ((ok=true∧wr=false∧xs.length=n∧sZ xs∧xE xs∧p'=p+(eZ xs).length∧eX ys p (eZ xs))∨(ok=false∧∀zs,zs.length=n→sZ zs→¬eX ys p (eZ zs)))
theorem aUt(g c:Nat)(A:Option Addr)(ys:List Int)(p m:Nat)(w:World)(hown:aZ (Rd g A c ys p false) w)(hm:ys.length<100000000)(hp:p≤8*ys.length)(hn:m<100000):
  aF prog 226 [.pointer (some ⟨g,0,none⟩),.int .i64 m] (Rd g A c ys p false) w (aPe g c A ys p m):=by
 refine aJ func226 rfl ntmps226 rfl hown (fun n=>?_);simp only[aG];refine dH (e:=21) (size:=1) ?_;refine aX;refine fO rfl rfl (aC.cons (.there _ (.here _ _)) (aC.cons (.there _ (.here _ _)) (aC.nil _))) rfl (fun w hw ho=>aH1 g c A ys p 5 false w ho hm hp oo) ?_;rintro v S' ⟨k,p1,wr1,rfl,hk,rfl,hp1,hk2⟩;have hk3:k<32:=hk;have hsplit:∀zs,eX ys p (eZ zs)→eX ys p (gW (fY zs) 5)∧eX ys (p+5) (jL zs (fY zs)):=fun zs h=>by
  have:=gG.1 h
  rwa [rA]at this
 refine aX;rcases hk2 with⟨rfl,-,rfl,hat⟩ | ⟨rfl,hno⟩
 ·refine sC (v:=.bool true) rfl rfl (aC.cons (.here _ _) (aC.cons (.here _ _) (aC.nil _))) (aA.refl _) rfl (fun w hw ho=>wS g c A ys _ false w ho) ?_;refine aX;refine nM 22 rfl (fun h1=>?_) (fun h1=>?_)
  ·have h16:16<k:=by have:=of_decide_eq_true h1;omega
   refine aX;refine cY rfl rfl rfl (S':=.row (.slice none 0 0) 21 1 0 (aD .i32 [])::Rd g A c ys (p+5) false) (.cons (.there _ (.there _ (.here _ _))) (aA.refl _)) ⟨[],none,0,p+5,false,false,rfl,rfl,hp1,.inr ⟨rfl,fun zs _ _ h=>?_⟩⟩;have:=aCi (by have:=uK zs;omega) hk3 (hsplit zs h).1 hat
   have:=uK zs;omega
  ·have h16:k≤16:=by have:=of_decide_eq_false h1;omega
   refine aX;refine cG (X:=List Int×Option Addr×Nat) (fun x=>x.1.length≤m∧sZ x.1∧xE x.1∧eX ys (p+5) (jL x.1 k)) (fun x=>[(0,.pointer (some ⟨g,0,none⟩)),(6,.int .i64 k),(7,.slice x.2.1 x.1.length x.2.2),(26,.int .i64 m),(27,.int .i64 x.1.length)])
    (fun x=>.row (.slice x.2.1 x.1.length x.2.2) 21 1 x.1.length (aD .i32 x.1)::Rd g A c ys (p+5+gT x.1 k) false) (fun x=>m-x.1.length) ([],none,0) ⟨aE,by simp[sZ],by simp[xE],aUr.2 hp1⟩ ⟨rfl,rfl,rfl,rfl,rfl,trivial⟩ (.cons (.there _ (.there _ (.here _ _))) (aA.refl _)) ?_
   rintro⟨zs,Az,cz⟩ ⟨hz1,hz2,hz3,hz4⟩;simp only at hz1 hz2 hz3 hz4 ⊢;have hq:p+5+gT zs k≤8*ys.length:=by have:=hz4.1;rwa [wE]at this
   refine aX;refine fB rfl (fun h=>?_) (fun h=>?_)
   ·have hlt:zs.length<m:=by have:=of_decide_eq_true h;omega
    refine aX;refine fO rfl rfl (aC.cons (.there _ (.here _ _)) (aC.cons (.there _ (.here _ _)) (aC.nil _))) rfl (fun w hw ho=>aTw g c A ys _ k w ho hm hq h16) ?_;rintro v S' ⟨x,p2,ok,wr,rfl,rfl,hp2,hx⟩;refine aX;rcases hx with⟨rfl,rfl,hx1,rfl,hxat⟩ | ⟨rfl,hxno⟩
    ·have hfu:kK (nC x)=x:=by have h1:=xT (nC x);rw[aTo _ oo]at h1;omega
     have hur:=bC2 x oo oo;refine aX;refine bU (v:=.int .i32 (nC x)) rfl rfl rfl (fun w hw=>bC3 x w oo oo) ?_;refine aX;have hsn:=aJc zs (nC x) k;have hbs:gT (zs++[nC x]) k=gT zs k+pE x k:=by rw[← wE,← wE,hsn,List.length_append,aJa,hfu]
     refine aR (zs++[nC x],_,_) ⟨by simp;omega,fun y hy=>?_,fun i hi=>?_,?_⟩ (by show m-(zs++[nC x]).length<m-zs.length;simp;omega) ⟨rfl,rfl,rfl,rfl,by simp[aI],trivial⟩ ?_
     ·rcases List.mem_append.1 hy with hy|hy
      ·exact hz2 y hy
      ·rw[List.mem_singleton.1 hy,hfu];exact hx1
     ·rw[List.length_append,List.length_singleton]at hi;rcases Nat.lt_or_ge i zs.length with h5|h5
      ·have:=hz3 i h5;simpa [List.getD_eq_getElem?_getD,List.getElem?_append_left h5] using this
      ·obtain rfl:i=zs.length:=oo;simpa [List.getD_eq_getElem?_getD] using hur
     ·rw[hsn,gG,wE,hfu];exact⟨hz4,hxat⟩
     ·simp only[hbs,← Nat.add_assoc];exact aA.au
    ·refine aX;refine dH (e:=21) (size:=1) ?_;refine cY rfl rfl rfl (S':=.row (.slice none 0 0) 21 1 0 (aD .i32 [])::Rd g A c ys p2 wr) ?_ ⟨[],none,0,p2,false,wr,rfl,rfl,hp2,.inr ⟨rfl,fun us hu1 hu2 h=>?_⟩⟩
     ·exact .cons (.here _ _) (.cons (.here _ _) (.cons (.here _ _) (.nil _)))
     ·have hs:=hsplit us h;have e:=aCi (by have:=uK us;omega) hk3 hs.1 hat
      rw[e]at hs;have hpre:=aC5 zs us _ hz4 hs.2 oo hz2 hu2;have e2:us=us.take zs.length++us.getD zs.length 0::us.drop (zs.length+1):=by rw[List.getD_eq_getElem?_getD,List.getElem?_eq_getElem oo,Option.getD_some,← List.drop_eq_getElem_cons,List.take_append_drop]
      have hs2:=hs.2;rw[e2,hpre]at hs2;have e3:jL (zs++us.getD zs.length 0::us.drop (zs.length+1)) k=jL zs k++(lE (kK (us.getD zs.length 0)) k++jL (us.drop (zs.length+1)) k):=by simp[jL]
      rw[e3,gG,gG,wE]at hs2;refine hxno _ (hu2 _ ?_) hs2.2.1;rw[List.getD_eq_getElem?_getD,List.getElem?_eq_getElem oo,Option.getD_some];exact List.getElem_mem _
   ·have hge:zs.length=m:=by have:=of_decide_eq_false h;omega
    refine aX;refine bU rfl rfl rfl (fun w1 hw=>aIk Az cz zs w1 ⟨Ro.row hw (aC.nil _) (.here _ _)⟩ hz3 oo) ?_;refine aX;refine cY rfl rfl rfl (aA.refl _) ⟨zs,Az,cz,_,_,false,rfl,rfl,hq,?_⟩;have hrl:(gW (fY zs) 5++jL zs (fY zs)).length=5+gT zs (fY zs):=by rw[List.length_append,rA,wE]
    by_cases hbk:fY zs=k
    ·refine .inl ⟨by simp[hbk],rfl,hge,hz2,hz3,?_,?_⟩
     ·unfold eZ;rw[hrl,hbk,Nat.add_assoc]
     ·unfold eZ;rw[gG,rA,hbk];exact⟨hat,hz4⟩
    ·refine .inr ⟨by simp;omega,fun us hu1 hu2 h=>hbk ?_⟩;have hs:=hsplit us h;have e:=aCi (by have:=uK us;omega) hk3 hs.1 hat
     rw[e]at hs;have hpre:=aC5 zs us _ hz4 hs.2 oo hz2 hu2;rw[List.take_of_length_le oo]at hpre;rw[← hpre];exact e
 ·refine sC (v:=.bool false) rfl rfl (aC.cons (.here _ _) (aC.cons (.here _ _) (aC.nil _))) (aA.refl _) rfl (fun w hw ho=>wS g c A ys _ true w ho) ?_;refine aX;refine cY rfl rfl rfl (S':=.row (.slice none 0 0) 21 1 0 (aD .i32 [])::Rd g A c ys p1 true) (.cons (.there _ (.there _ (.here _ _))) (aA.refl _)) ⟨[],none,0,p1,false,true,rfl,rfl,hp1,.inr ⟨rfl,fun zs _ _ h=>hno rfl _ (hsplit zs h).1⟩⟩
def p2(k:Nat):Nat:=2^k
theorem aH8{xs zs:List Int}{p:Nat}{ys:List Int}(h1:eX ys p (eZ xs))(h2:eX ys p (eZ zs))(hl:zs.length=xs.length)(f1:sZ xs)(f2:sZ zs):zs=xs:=by unfold eZ at h1 h2;rw[gG,rA]at h1 h2;have e:=aCi (by have:=uK zs;omega) (by have:=uK xs;omega) h2.1 h1.1;rw[e]at h2;have:=aC5 xs zs _ h1.2 h2.2 oo f1 f2;rw[← hl,List.take_of_length_le oo]at this;exact this
theorem aN3(xs:List Int):(eZ xs).length=5+gT xs (fY xs):=by unfold eZ;rw[List.length_append,rA,wE]
def jG(z:List Int)(w i:Nat):Int:=if 0<i%w then z.getD (i-1) 0 else if 0<i then z.getD (i-w) 0 else 0
def oE(z:List Int)(w i:Nat):Int:=z.getD i 0-jG z w i
def dZ(z:List Int)(w:Nat):List Int:=(List.range z.length).map (oE z w)
theorem uP(z:List Int)(w:Nat):(dZ z w).length=z.length:=by simp[dZ]
def tJ(xs:List Int)(i:Nat):List Int:=xs.take i++List.replicate (xs.length-i) 0
theorem aTb(xs:List Int):tJ xs 0=List.replicate xs.length 0:=by simp[tJ]
theorem aTc(xs:List Int):tJ xs xs.length=xs:=by simp[tJ]
theorem aTd(xs:List Int)(i:Nat)(h:i≤xs.length):(tJ xs i).length=xs.length:=by simp[tJ];omega
theorem aTe(xs:List Int)(i:Nat)(h:i<xs.length):(tJ xs i).set i (xs.getD i 0)=tJ xs (i+1):=by
 have hl:(xs.take i).length=i:=by rw[List.length_take];omega
 unfold tJ;rw[List.set_append_right _ _ oo,hl,Nat.sub_self,List.take_succ_eq_append_getElem h,List.append_assoc,show xs.length-i=(xs.length-(i+1))+1 from by omega,List.replicate_succ,List.set_cons_zero];simp[List.getD_eq_getElem?_getD,h]
def fD(z:List Int):Prop:=∀i,-32768≤z.getD i 0∧z.getD i 0≤32767
theorem aUl{z:List Int}(h:∀x∈z,bG .i16 x):fD z:=fun i=>by
 rcases Nat.lt_or_ge i z.length with hi|hi
 ·exact h (z.getD i 0) (by rw[List.getD_eq_getElem?_getD,List.getElem?_eq_getElem hi];exact List.getElem_mem _)
 ·rw[List.getD_eq_getElem?_getD,List.getElem?_eq_none hi];simp
theorem aCl{z:List Int}(h:fD z)(w i:Nat): -32768≤jG z w i∧jG z w i≤32767:=by
 unfold jG;split
 ·exact h _
 ·split
  ·exact h _
  ·omega
def vE(w h:Int):Bool:=decide (1≤w)&&(decide (1≤h)&&(decide (w≤16)&&decide (h≤16)))
theorem aN1(a b:Int)(w:World):aF prog 133 [.int .i64 a,.int .i64 b] [] w (fun v S'=>v=.bool (vE a b)∧S'=[]):=by
 refine aJ func133 rfl ntmps133 rfl ⟨aE,.nil⟩ (fun n=>?_);simp only[aG];unfold vE;refine bI;refine nM 7 rfl (fun h1=>?_) (fun h1=>?_)
 ·rw[h1];refine bI;refine nM 11 rfl (fun h2=>?_) (fun h2=>?_)
  ·rw[h2];refine bI;refine nM 15 rfl (fun h3=>?_) (fun h3=>?_)
   ·rw[h3];refine bI;exact aM rfl rfl (.nil _) ⟨aE,rfl⟩
   ·rw[h3];refine bI;exact aM rfl rfl (.nil _) ⟨aE,rfl⟩
  ·rw[h2];refine bI;exact aM rfl rfl (.nil _) ⟨aE,rfl⟩
 ·rw[h1];refine bI;exact aM rfl rfl (.nil _) ⟨aE,rfl⟩
theorem aKh(A:Option Addr)(c:Nat)(z:List Int)(wd i:Nat)(w:World)(hr:bP w (bB []) A z.length c 1 (aD .i16 z))(hz:fD z)(hi:i<z.length)(hw:0<wd)(hm:z.length<1000000∧wd<1000000):
  aF prog 134 [.slice A z.length c,.int .i64 wd,.int .i64 i] [] w (fun v S'=>v=.int .i32 (jG z wd i)∧S'=[]):=by
 refine aJ func134 rfl ntmps134 rfl ⟨aE,.nil⟩ (fun n=>?_);simp only[aG];have hmod:((i:Int)%(wd:Int))=((i%wd:Nat):Int):=oo;obtain⟨bA,oA,rfl,hat⟩:=hr.at_ (by omega:0<z.length);refine bI;refine fB rfl (fun h=>?_) (fun h=>?_)
 ·have h1:0<i%wd:=by have:=of_decide_eq_true h;omega
  have hz1:=hz ((i:Int)-1).toNat
  have hi0:0<i:=by
   rcases Nat.eq_zero_or_pos i with e|e
   ·subst e;simp at h1
   ·exact e
  have e:jG z wd i=z.getD ((i:Int)-1).toNat 0:=by rw[jG,if_pos h1,show ((i:Int)-1).toNat=i-1 from by omega]
  rw[e];refine bI;exact aM rfl rfl (.nil _) ⟨rfl,rfl⟩
 ·have h1:¬0<i%wd:=by have:=of_decide_eq_false h;omega
  refine bI;refine fB rfl (fun h2=>?_) (fun h2=>?_)
  ·have hi0:0<i:=by have:=of_decide_eq_true h2;omega
   have hle:wd≤i:=by
    rcases Nat.lt_or_ge i wd with h3|h3
    ·rw[Nat.mod_eq_of_lt h3]at h1;omega
    ·exact h3
   have hz1:=hz ((i:Int)-wd).toNat
   have e:jG z wd i=z.getD ((i:Int)-wd).toNat 0:=by rw[jG,if_neg h1,if_pos hi0,show ((i:Int)-wd).toNat=i-wd from by omega]
   rw[e];refine bI;exact aM rfl rfl (.nil _) ⟨rfl,rfl⟩
  ·have hi0:¬0<i:=by have:=of_decide_eq_false h2;omega
   have e:jG z wd i=0:=by rw[jG,if_neg h1,if_neg hi0]
   rw[e];refine bI;exact aM rfl rfl (.nil _) ⟨rfl,rfl⟩
def vD(wd h:Int)(z:List Int):Option (List Int):=if vE wd h=true∧(z.length:Int)=wd*h then some (dJ (eZ (dZ z wd.toNat)))else none
def zL(wd h:Int)(z:List Int):Int:=if vE wd h=true∧(z.length:Int)=wd*h then 0 else 5
theorem aH0(a b:Int):vE a b=true↔1≤a∧1≤b∧a≤16∧b≤16:=by simp[vE]
theorem aAh{z:List Int}(hz:fD z)(w:Nat):sZ (dZ z w):=fun x hx=>by obtain⟨i,-,rfl⟩:=List.mem_map.1 hx;have h1:=hz i;have h2:=aCl hz w i;have h3:=xT (oE z w i);unfold oE at h3 ⊢;unfold nL at h3;split at h3<;>omega
theorem xQ(z:List Int)(w i:Nat)(h:i<z.length):(dZ z w).getD i 0=oE z w i:=by simp[dZ,List.getD_eq_getElem?_getD,h]
theorem aSr{z:List Int}(hz:fD z)(w:Nat):xE (dZ z w):=fun i hi=>by rw[uP]at hi;rw[xQ z w i hi];have h1:=hz i;have h2:=aCl hz w i;unfold oE;omega
theorem aYi(A:Option Addr)(c:Nat)(z:List Int)(a b:Int)(w:World)(hr:bP w (bB []) A z.length c 1 (aD .i16 z))(hz:fD z)(hm:z.length<100000):
  aF prog 98 [.int .i64 a,.int .i64 b,.slice A z.length c] [] w (fun v S'=>∃A' c',v=.tuple #[.slice A' ((vD a b z).getD []).length c',.int .i64 (zL a b z)]∧S'=[.row (.slice A' ((vD a b z).getD []).length c') 5 1 ((vD a b z).getD []).length (aD .u8 ((vD a b z).getD []))]):=by
 refine aJ func98 rfl ntmps98 rfl ⟨aE,.nil⟩ (fun n=>?_);simp only[aG];refine bI;refine bU rfl rfl rfl (fun w _=>aN1 a b w) ?_;cases hR:vE a b with
 | false =>
  have e1:vD a b z=none:=if_neg (by rw[hR];simp);have e2:zL a b z=5:=if_neg (by rw[hR];simp);rw[e1,e2];refine bI;refine dH (e:=5) (size:=1) ?_;exact cY rfl rfl rfl (aA.refl _) ⟨none,0,rfl,rfl⟩
 | true =>
  obtain⟨ha1,hb1,ha2,hb2⟩:=(aH0 a b).1 hR;have hab:0≤a*b∧a*b≤256:=⟨Int.mul_nonneg oo oo,by have:=Int.mul_le_mul ha2 hb2 oo (by omega:(0:Int)≤16);omega⟩;refine bI;refine fB rfl (fun h=>?_) (fun h=>?_)
  ·have hne:¬(z.length:Int)=a*b:=by simpa using h
   have e1:vD a b z=none:=if_neg (by rw[hR];simp[hne]);have e2:zL a b z=5:=if_neg (by rw[hR];simp[hne]);rw[e1,e2];refine bI;refine dH (e:=5) (size:=1) ?_;exact cY rfl rfl rfl (aA.refl _) ⟨none,0,rfl,rfl⟩
  have heq:(z.length:Int)=a*b:=by simpa using h
  have hz256:z.length≤256:=oo;obtain⟨wd,rfl⟩:∃wd:Nat,a=(wd:Int):=⟨a.toNat,oo⟩;have e1:vD wd b z=some (dJ (eZ (dZ z wd))):=if_pos ⟨hR,heq⟩;have e2:zL wd b z=0:=if_pos ⟨hR,heq⟩;have hdl:=uP z wd;rw[e1,e2];refine bI;rename_i b8 b9;refine cG (X:=Nat) (fun i=>i≤z.length) (fun i=>[(0,.int .i64 wd),(2,.slice A z.length c),(8,.pointer (some ⟨b8,0,none⟩)),(9,.slice (some ⟨b9,0,none⟩) z.length z.length),(27,.slice A z.length c),(28,.int .i64 z.length),(29,.int .i64 i)])
   (fun i=>[.row (.slice (some ⟨b9,0,none⟩) z.length z.length) 21 1 z.length (aD .i32 (tJ (dZ z wd) i)),.blk b8 231 [.slice none 0 0,.int .i64 0]]) (fun i=>z.length-i) 0 aE ⟨rfl,rfl,rfl,rfl,rfl,rfl,rfl,trivial⟩ (by rw[aTb,hdl];exact aA.refl _) ?_
  intro i hi;have hfl:=aTd (dZ z wd) i oo;refine bI;refine fB rfl (fun h=>?_) (fun h=>?_)
  ·have hlt:i<z.length:=by have:=of_decide_eq_true h;omega
   have hfs:=aTe (dZ z wd) i oo;rw[xQ z wd i hlt,oE]at hfs;have hz1:=hz i;have hg:=aCl hz wd i;obtain⟨bA,oA,rfl,hat⟩:=hr.at_ (by omega:0<z.length);refine bI;refine bU rfl rfl rfl (fun w hw=>aKh _ c z wd i w ⟨hr.h.go hw (aC.nil _)⟩ hz hlt oo oo) ?_;refine bI;refine aR (i+1) (by show i+1≤_;omega) (by show _-(i+1)<_-i;omega) ⟨rfl,rfl,rfl,rfl,rfl,rfl,by simp[aI],trivial⟩ (by rw[← hfs];exact aA.au)
  ·obtain rfl:i=z.length:=by have:=of_decide_eq_false h;omega
   have hrl:=aN3 (dZ z wd);have hbk:=uK (dZ z wd);have hbs:=aA8 (dZ z wd) (fY (dZ z wd)) hbk;have hpl:=rB (eZ (dZ z wd));have hfa:=aTc (dZ z wd);rw[hdl]at hfa;rw[hfa,← hdl];refine bI;refine dH (e:=5) (size:=1) ?_;refine fO (S:=Wr b8 none 0 []) rfl rfl (aC.cons (.there _ (.there _ (.here _ _))) (aC.cons (.here _ _) (aC.nil _))) rfl (fun w hw ho=>bAd b8 0 none [] (some ⟨b9,0,none⟩) (dZ z wd).length (dZ z wd) w ho ⟨Ro.row hw (aC.cons (.there _ (.there _ (.here _ _))) (aC.cons (.here _ _) (aC.nil _))) (.here _ _)⟩ (aSr hz wd) oo aE) ?_;rintro v S' ⟨rfl,A2,c2,rfl⟩;simp only[List.nil_append];refine bI;refine lf rfl rfl rfl (fun w hw ho=>aQw b8 c2 A2 (eZ (dZ z wd)) w ho oo) ?_;rintro v S' ⟨A4,c4,rfl,rfl⟩;refine bI;exact cY rfl rfl rfl (.cons (.here _ _) (.nil _)) ⟨A4,c4,rfl,rfl⟩
theorem aQs:∀x:Fin 256,(128*(if bits .and .u8 ((x:Nat):Int) (128/2^0) != 0 then 1 else 0)+64*(if bits .and .u8 ((x:Nat):Int) (128/2^1) != 0 then 1 else 0)+32*(if bits .and .u8 ((x:Nat):Int) (128/2^2) != 0 then 1 else 0)+16*(if bits .and .u8 ((x:Nat):Int) (128/2^3) != 0 then 1 else 0)+8*(if bits .and .u8 ((x:Nat):Int) (128/2^4) != 0 then 1 else 0)+4*(if bits .and .u8 ((x:Nat):Int) (128/2^5) != 0 then 1 else 0)+2*(if bits .and .u8 ((x:Nat):Int) (128/2^6) != 0 then 1 else 0)+(if bits .and .u8 ((x:Nat):Int) (128/2^7) != 0 then 1 else 0):Nat)=(x:Nat):=by decide +kernel
theorem aQj(ys:List Int)(i:Nat)(h:i<8*ys.length):kV (vF ys) i=if jE ys i then 1 else 0:=by unfold kV;rw[aH6 ys i h]
theorem aXu{ys:List Int}(hu:dL ys)(j:Nat)(h:j<ys.length):(jA (vF ys) j:Int)=ys.getD j 0:=by
 have hmem:ys.getD j 0∈ys:=by rw[List.getD_eq_getElem?_getD,List.getElem?_eq_getElem h];exact List.getElem_mem _
 obtain⟨x,hx,hx2⟩:∃x:Nat,ys.getD j 0=(x:Int)∧x<256:=by have:=hu _ hmem;exact⟨(ys.getD j 0).toNat,oo,oo⟩
 have hb:∀r,r<8→kV (vF ys) (8*j+r)=if bits .and .u8 (x:Int) (128/2^r) != 0 then 1 else 0:=by intro r hr;rw[aQj ys _ oo];unfold jE;rw[show (8*j+r)/8=j from by omega,show (8*j+r)%8=r from by omega,hx]
 have h0:=hb 0 oo;rw[Nat.add_zero]at h0;unfold jA;rw[h0,hb 1 oo,hb 2 oo,hb 3 oo,hb 4 oo,hb 5 oo,hb 6 oo,hb 7 oo,hx];exact congrArg Nat.cast (aQs ⟨x,hx2⟩)
theorem aXx{ys:List Int}(hu:dL ys):dJ (vF ys)=ys:=by
 apply List.ext_getElem?;intro j;rw[getElem?_pack,aH7];by_cases h:j<ys.length
 ·rw[if_pos oo,aXu hu j h,List.getD_eq_getElem?_getD,List.getElem?_eq_getElem h];rfl
 ·rw[if_neg oo,List.getElem?_eq_none oo]
theorem aXt{a b:List Bool}(h:∀i,a.getD i false=b.getD i false)(j:Nat):jA a j=jA b j:=by unfold jA kV;simp only[h]
theorem aXw{ys:List Int}{l:List Bool}(hu:dL ys)(h1:eX ys 0 l)(h2:8*ys.length≤l.length+7)(h3:∀i,l.length≤i→i<8*ys.length→jE ys i=false):dJ l=ys:=by
 have hl:=h1.1;rw[← aXx hu];have hg:∀i,l.getD i false=(vF ys).getD i false:=by
  intro i;rcases Nat.lt_or_ge i l.length with h|h
  ·rw[aH6 ys i oo,← h1.2 i h,Nat.zero_add]
  ·have e1:l.getD i false=false:=by rw[List.getD_eq_getElem?_getD,List.getElem?_eq_none h];rfl
   rw[e1];rcases Nat.lt_or_ge i (8*ys.length) with h4|h4
   ·rw[aH6 ys i h4,h3 i h h4]
   ·rw[List.getD_eq_getElem?_getD,List.getElem?_eq_none (by rw[aH7];exact h4)];rfl
 apply List.ext_getElem?;intro j;rw[getElem?_pack,getElem?_pack,aXt hg,aH7,show (l.length+7)/8=(8*ys.length+7)/8 from by omega]
theorem aXz{l:List Bool}(i:Nat)(h:l.length≤i)(h2:i<8*(dJ l).length):jE (dJ l) i=false:=by
 rw[rB]at h2;have e:(dJ l).getD (i/8) 0=(jA l (i/8):Nat):=by rw[List.getD_eq_getElem?_getD,getElem?_pack,if_pos oo];rfl
 unfold jE;rw[e,aIg ⟨jA l (i/8),aAz _ _⟩ ⟨i%8,oo⟩];show (jA l (i/8)/2^(7-i%8)%2==1)=_;rw[aMg l (i/8) (i%8) oo,show 8*(i/8)+i%8=i from by omega,aIm l i h];rfl
theorem aS9(g c:Nat)(A:Option Addr)(ys:List Int)(p:Nat)(w:World)(hown:aZ (Rd g A c ys p false) w)(hm:ys.length<100000000)(hp:p≤8*ys.length):
  aF prog 227 [.pointer (some ⟨g,0,none⟩)] (Rd g A c ys p false) w (fun v S'=>∃(ok:Bool) (p':Nat) (wr:Bool),v=.bool ok∧S'=Rd g A c ys p' wr∧(ok=true↔8*ys.length≤p+7∧∀i,p≤i→i<8*ys.length→jE ys i=false)):=by
 refine aJ func227 rfl ntmps227 rfl hown (fun n=>?_);simp only[aG];refine bI;refine lk (v:=.int .i64 (8*ys.length-p)) rfl rfl rfl (fun w hw ho=>zD g c A ys p false w ho hm hp) ?_;refine bI;refine fB rfl (fun h=>?_) (fun h=>?_)
 ·have h1:=of_decide_eq_true h;refine bI;exact aM rfl rfl (aA.refl _) ⟨false,p,false,rfl,rfl,by simp;omega⟩
 have h1:=of_decide_eq_false h;refine bI;refine cG (X:=Nat) (fun i=>p≤i∧i≤8*ys.length∧∀j,p≤j→j<i→jE ys j=false) (fun _=>[(0,.pointer (some ⟨g,0,none⟩))]) (fun i=>Rd g A c ys i false) (fun i=>8*ys.length-i) p ⟨Nat.le_refl _,hp,fun j h1 h2=>by omega⟩ ⟨rfl,trivial⟩ (aA.refl _) ?_;rintro i ⟨hi1,hi2,hi3⟩;refine bI;refine lk (v:=.int .i64 (8*ys.length-i)) rfl rfl rfl (fun w hw ho=>zD g c A ys i false w ho hm hi2) ?_;refine bI;refine fB rfl (fun h=>?_) (fun h=>?_)
 ·have hlt:i<8*ys.length:=by have:=of_decide_eq_true h;omega
  refine bI;refine lf rfl rfl rfl (fun w hw ho=>aDe g c A ys i w ho hm hlt) ?_;rintro v S' ⟨rfl,rfl⟩;refine bI;refine fB rfl (fun h2=>?_) (fun h2=>?_)
  ·refine bI;exact aM rfl rfl (aA.refl _) ⟨false,i+1,false,rfl,rfl,by simp;intro _;exact⟨i,hi1,hlt,h2⟩⟩
  ·refine bI;refine aR (i+1) ⟨oo,oo,fun j h5 h6=>?_⟩ (by show _-(i+1)<_-i;omega) ⟨rfl,trivial⟩ (aA.refl _);by_cases e:j=i
   ·subst e;exact h2
   ·exact hi3 j h5 oo
 ·have hge:i=8*ys.length:=by have:=of_decide_eq_false h;omega
  subst hge;refine bI;exact aM rfl rfl (aA.refl _) ⟨true,_,false,rfl,rfl,by simp;exact⟨oo,hi3⟩⟩
theorem aAk{a b:List Int}{j:Nat}(h:j<a.length):(a++b).getD j 0=a.getD j 0:=by simp[List.getD_eq_getElem?_getD,List.getElem?_append_left h]
theorem aFg{a b:List Int}{w i:Nat}(hw:0<w)(h:i≤a.length):jG (a++b) w i=jG a w i:=by
 unfold jG;by_cases h1:0<i%w
 ·have hi:0<i:=by
   rcases Nat.eq_zero_or_pos i with e|e
   ·subst e;simp at h1
   ·exact e
  rw[if_pos h1,if_pos h1,aAk oo]
 ·rw[if_neg h1,if_neg h1];by_cases h2:0<i
  ·rw[if_pos h2,if_pos h2,aAk oo]
  ·rw[if_neg h2,if_neg h2]
theorem aFh{p:List Int}{w n:Nat}(hw:0<w)(h:n≤p.length):jG p w n=jG (p.take n) w n:=by
 conv=>lhs;rw[← List.take_append_drop n p]
 exact aFg hw (by rw[List.length_take];omega)
theorem aJq{w:Nat}(hw:0<w)(p z:List Int)(hl:p.length≤z.length)(h:∀j,j<p.length→oE p w j=oE z w j):∀n,n≤p.length→z.take n=p.take n:=by
 intro n
 induction n with
 | zero=>intro _;simp
 | succ n ih =>
  intro hn;have h1:=ih oo;have h2:=h n oo;unfold oE at h2;rw[aFh hw (by omega:n≤p.length),aFh hw (by omega:n≤z.length),h1]at h2;rw[List.take_succ_eq_append_getElem (by omega:n<z.length),List.take_succ_eq_append_getElem (by omega:n<p.length),h1];have e1:p.getD n 0=p[n]:=by rw[List.getD_eq_getElem?_getD,List.getElem?_eq_getElem oo];rfl
  have e2:z.getD n 0=z[n]:=by rw[List.getD_eq_getElem?_getD,List.getElem?_eq_getElem oo];rfl
  rw[e1,e2]at h2;rw[show z[n]=p[n]from by omega]
def oQ(p:List Int)(n:Nat):List Int:=p++List.replicate (n-p.length) 0
theorem aQe(p:List Int)(n:Nat)(h:p.length≤n):(oQ p n).length=n:=by simp[oQ];omega
theorem aQf(p:List Int)(n:Nat)(x:Int)(h:p.length<n):(oQ p n).set p.length x=oQ (p++[x]) n:=by unfold oQ;rw[List.set_append_right _ _ oo,Nat.sub_self,show n-p.length=(n-(p++[x]).length)+1 from by simp;omega,List.replicate_succ,List.set_cons_zero];simp
theorem aQd(p:List Int):oQ p p.length=p:=by simp[oQ]
theorem aUk{p:List Int}(h:fD p)(n:Nat):fD (oQ p n):=by
 intro i;unfold oQ;rcases Nat.lt_or_ge i p.length with h1|h1
 ·rw[aAk h1];exact h i
 ·rw[List.getD_eq_getElem?_getD,List.getElem?_append_right h1,List.getElem?_replicate];split<;>simp
theorem aUm{p:List Int}(h:fD p){x:Int}(h1 : -32768≤x)(h2:x≤32767):fD (p++[x]):=by
 intro i;rcases Nat.lt_trichotomy i p.length with h3|h3|h3
 ·rw[aAk h3];exact h i
 ·subst h3;simp[List.getD_eq_getElem?_getD];omega
 ·rw[List.getD_eq_getElem?_getD,List.getElem?_eq_none (by simp;omega)];simp
def aA2(m:Nat)(ys:List Int):Prop:=∃xs:List Int,xs.length=m∧sZ xs∧dJ (eZ xs)=ys
def aPb(wd h:Nat)(ys:List Int)(v:Value)(S':List HE):Prop :=
 ∃(zs:List Int) (A:Option Addr) (c:Nat) (code:Int) (T:List HE),v=.tuple #[.slice A zs.length c,.int .i64 code]∧S'=.row (.slice A zs.length c) 95 1 zs.length (aD .i16 zs)::T ∧
  ((code=0∧zs.length=wd*h∧fD zs∧dJ (eZ (dZ zs wd))=ys)∨(((code=3∧¬aA2 (wd*h) ys)∨(code=2∧aA2 (wd*h) ys))∧zs=[]∧∀z,z.length=wd*h→fD z→dJ (eZ (dZ z wd))≠ys))
theorem aTt(A:Option Addr)(c:Nat)(ys:List Int)(wd h:Nat)(w:World)(hr:bP w (bB []) A ys.length c 1 (aD .u8 ys))(hu:dL ys)(hm:ys.length<100000)(hwh:1≤wd∧wd≤16∧1≤h∧h≤16):
  aF prog 183 [.int .i64 wd,.int .i64 h,.slice A ys.length c] [] w (aPb wd h ys):=by
 have hab:wd*h≤256:=by have:=Nat.mul_le_mul hwh.2.1 hwh.2.2.2;omega
 have hR:vE wd h=true:=(aH0 _ _).2 oo;have hcast:(wd:Int)*(h:Int)=((wd*h:Nat):Int):=by push_cast;rfl
 refine aJ func183 rfl ntmps183 rfl ⟨aE,.nil⟩ (fun n=>?_);simp only[aG];refine bI;refine bU (v:=.bool true) rfl rfl rfl (fun w _=>(by have:=aN1 wd h w;rw[hR]at this;exact this)) ?_;refine bI;refine lf rfl rfl rfl (S:=[]) (fun w hw ho=>aZu _ ys w (hr.h.go hw (aC.nil _)) oo) ?_;rintro v S' ⟨g,A5,c5,rfl,rfl⟩;refine bI;rw[hcast];refine lf rfl rfl rfl (fun w hw ho=>aUt g c5 A5 ys 0 (wd*h) w ho oo oo oo) ?_;rintro v S' ⟨xs,Ax,cx,p',ok,wr,rfl,rfl,hp',hok⟩;have hno3:(∀z:List Int,z.length=wd*h→fD z→eX ys 0 (eZ (dZ z wd))→False)→∀z,z.length=wd*h→fD z→dJ (eZ (dZ z wd))≠ys:=by intro hf z hz1 hz2 he;exact hf z hz1 hz2 (by rw[← he];exact aAm _)
 rcases hok with⟨rfl,rfl,hxl,hxf,hxi,rfl,hxat⟩ | ⟨rfl,hno⟩
 rotate_left
 ·refine bI;refine dH (e:=95) (size:=1) ?_;exact cY rfl rfl rfl (aA.refl _) ⟨[],none,0,3,_,rfl,rfl,.inr ⟨.inl ⟨rfl,fun ⟨xs',h1,h2,h3⟩=>hno xs' h1 h2 (by rw[← h3];exact aAm _)⟩,rfl,hno3 fun z hz1 hz2 hat=>hno (dZ z wd) (by rw[uP,hz1]) (aAh hz2 wd) hat⟩⟩
 simp only[Nat.zero_add]at hp' ⊢;refine bI;refine lf rfl rfl rfl (fun w hw ho=>aS9 g c5 A5 ys (eZ xs).length w ho oo hp') ?_;rintro v S' ⟨ok,p2,wr2,rfl,rfl,hcl⟩;cases ok with
 | false =>
  refine bI;refine dH (e:=95) (size:=1) ?_;have hnr:¬aA2 (wd*h) ys:=by
   rintro⟨xs',h1,h2,he⟩;have hat:eX ys 0 (eZ xs'):=by rw[← he];exact aAm _
   have e:=aH8 hxat hat (by rw[h1,hxl]) hxf h2;rw[e]at he;have:false=true:=hcl.2 ⟨by rw[← he,rB];omega,fun i h1 h2=>by rw[← he]at h2 ⊢;exact aXz i h1 h2⟩;cases this
  exact cY rfl rfl rfl (aA.refl _) ⟨[],none,0,3,_,rfl,rfl,.inr ⟨.inl ⟨rfl,hnr⟩,rfl,fun z hz1 hz2 he=>hnr ⟨_,by rw[uP,hz1],aAh hz2 wd,he⟩⟩⟩
 | true =>
  have hpk:dJ (eZ xs)=ys:=aXw hu hxat (hcl.1 rfl).1 (hcl.1 rfl).2;refine bI;rename_i b11;refine cG (X:=List Int) (fun p=>p.length≤xs.length∧fD p∧∀j,j<p.length→oE p wd j=xs.getD j 0) (fun p=>[(0,.int .i64 wd),(11,.slice (some ⟨b11,0,none⟩) xs.length xs.length),(39,.slice Ax xs.length cx),(40,.int .i64 xs.length),(41,.int .i64 p.length)])
   (fun p=>[.row (.slice (some ⟨b11,0,none⟩) xs.length xs.length) 95 1 xs.length (aD .i16 (oQ p xs.length)),.row (.slice Ax xs.length cx) 21 1 xs.length (aD .i32 xs)]) (fun p=>xs.length-p.length) [] ⟨aE,by intro i;simp,aE⟩ ⟨rfl,rfl,rfl,rfl,rfl,trivial⟩ (by simp only[oQ,List.nil_append,List.length_nil,Nat.sub_zero];exact aA.au) ?_
  rintro p ⟨hp1,hp2,hp3⟩;have hql:=aQe p xs.length hp1;refine bI;refine fB rfl (fun h5=>?_) (fun h5=>?_)
  ·have hlt:p.length<xs.length:=by have:=of_decide_eq_true h5;omega
   have hgr:=aCl hp2 wd p.length;have hge:jG (oQ p xs.length) wd p.length=jG p wd p.length:=aFg oo (Nat.le_refl _);have hmem:xs.getD p.length 0∈xs:=by rw[List.getD_eq_getElem?_getD,List.getElem?_eq_getElem hlt];exact List.getElem_mem _
   have hd:=hxf _ hmem;have hd2:=xT (xs.getD p.length 0);have hd3 : -65536≤xs.getD p.length 0∧xs.getD p.length 0≤65535:=by unfold nL at hd2;split at hd2<;>omega
   refine bI;refine bU (v:=.int .i32 (jG p wd p.length)) rfl rfl rfl (fun w hw=>by have hq:bP w (bB []) (some ⟨b11,0,none⟩) xs.length xs.length 1 (aD .i16 (oQ p xs.length)):=⟨Ro.row hw (aC.nil _) (by refine bCv)⟩;have hd:=aKh (some ⟨b11,0,none⟩) xs.length (oQ p xs.length) wd p.length w (by rw[hql];exact hq) (aUk hp2 _) oo oo oo;rw[hql,hge]at hd;exact hd) ?_;refine bI;have bad:¬(-32768≤jG p wd p.length+xs.getD p.length 0∧jG p wd p.length+xs.getD p.length 0≤32767)→∀z,z.length=wd*h→fD z→dJ (eZ (dZ z wd))≠ys:=by
    intro hb;refine hno3 fun z hz1 hz2 hat=>hb ?_;have e:=aH8 hxat hat (by rw[uP,hz1,hxl]) hxf (aAh hz2 wd);have e1:∀j,j<p.length→oE p wd j=oE z wd j:=fun j hj=>by rw[hp3 j hj,← e,xQ z wd j oo]
    have e2:=aJq (by omega:0<wd) p z oo e1 p.length (Nat.le_refl _);rw[List.take_of_length_le (Nat.le_refl p.length)]at e2;have e3:xs.getD p.length 0=oE z wd p.length:=by rw[← e,xQ z wd _ oo]
    have e4:=aFh (by omega:0<wd) (by omega:p.length≤z.length);rw[e2]at e4;rw[e3,oE,e4];have:=hz2 p.length;omega
   refine nM 54 rfl (fun h6=>?_) (fun h6=>?_)
   ·have h6':=of_decide_eq_true h6;refine bI;refine dH (e:=95) (size:=1) ?_;exact cY rfl rfl rfl (aA.refl _) ⟨[],none,0,2,_,rfl,rfl,.inr ⟨.inr ⟨rfl,xs,hxl,hxf,hpk⟩,rfl,bad oo⟩⟩
   have h6':=of_decide_eq_false h6;refine bI;refine fB rfl (fun h7=>?_) (fun h7=>?_)
   ·have h7':=of_decide_eq_true h7;refine bI;refine dH (e:=95) (size:=1) ?_;exact cY rfl rfl rfl (aA.refl _) ⟨[],none,0,2,_,rfl,rfl,.inr ⟨.inr ⟨rfl,xs,hxl,hxf,hpk⟩,rfl,bad oo⟩⟩
   have h7':=of_decide_eq_false h7;have hbs:=aQf p xs.length (jG p wd p.length+xs.getD p.length 0) hlt;refine bI;rw[hbs];refine aR (p++[jG p wd p.length+xs.getD p.length 0]) ⟨by simp;omega,aUm hp2 oo oo,fun j hj=>?_⟩ (by show _-(p++[_]).length<_-p.length;simp;omega) ⟨rfl,rfl,rfl,rfl,by simp[aI],trivial⟩ aA.au;rw[List.length_append,List.length_singleton]at hj;unfold oE;rw[aFg oo oo];rcases Nat.lt_or_ge j p.length with h8|h8
   ·rw[aAk h8];exact hp3 j h8
   ·obtain rfl:j=p.length:=oo;have:(p++[jG p wd p.length+xs.getD p.length 0]).getD p.length 0=jG p wd p.length+xs.getD p.length 0:=by simp[List.getD_eq_getElem?_getD]
    rw[this];omega
  ·have hpe:p.length=xs.length:=by have:=of_decide_eq_false h5;omega
   have hdx:dZ p wd=xs:=by apply List.ext_getElem (by rw[uP,hpe]);intro j h8 h9;have:=hp3 j oo;rw[← xQ p wd j oo,List.getD_eq_getElem?_getD,List.getD_eq_getElem?_getD,List.getElem?_eq_getElem h8,List.getElem?_eq_getElem h9]at this;simpa using this
   have hba:=aQd p;rw[hpe]at hba;rw[hba,← hpe];refine bI;exact cY rfl rfl rfl (aA.refl _) ⟨p,_,_,0,_,rfl,rfl,.inl ⟨rfl,oo,hp2,by rw[hdx];exact hpk⟩⟩
def bC(n:Nat):Nat:=(n+15)/16
def aA9(W H:Nat)(X Y:Int):Bool:=decide (0≤X)&&decide (0≤Y)&&decide (X<bC W)&&decide (Y<bC H)
def cU(W H:Nat)(X Y:Int):Nat×Nat×Nat×Nat:=if aA9 W H X Y=true then (16*X.toNat,16*Y.toNat,min 16 (W-16*X.toNat),min 16 (H-16*Y.toNat))else (0,0,0,0)
theorem aEj(W H:Nat)(X Y:Int):aA9 W H X Y=true↔0≤X∧0≤Y∧X<bC W∧Y<bC H:=by simp[aA9,and_assoc]
theorem vV(W H:Nat)(X Y:Int):(cU W H X Y).1+(cU W H X Y).2.2.1≤W∧(cU W H X Y).2.1+(cU W H X Y).2.2.2≤H∧(cU W H X Y).2.2.1≤16∧(cU W H X Y).2.2.2≤16:=by
 unfold cU;split
 ·rename_i h;have:=(aEj W H X Y).1 h;unfold bC at this;simp only;omega
 ·simp
theorem xO(m:Nat)(w:World)(hm:m<1000000):aF prog 132 [.int .i64 m] [] w (fun v S'=>v=.int .i64 (bC m:Nat)∧S'=[]):=by refine aJ func132 rfl ntmps132 rfl ⟨aE,.nil⟩ (fun n=>?_);simp only[aG];refine bI;refine aM rfl rfl (.nil _) ⟨?_,rfl⟩;unfold bC;congr 1;omega
theorem aAa(W H:Nat)(X Y:Int)(w:World)(hX:bG .i64 X)(hY:bG .i64 Y)(hm:W<1000000∧H<1000000):
  aF prog 97 [.int .i64 W,.int .i64 H,.agg #[.int .i64 X,.int .i64 Y]] [] w (fun v S'=>v=.tuple #[.int .i64 ((cU W H X Y).1:Nat),.int .i64 ((cU W H X Y).2.1:Nat),.int .i64 ((cU W H X Y).2.2.1:Nat),.int .i64 ((cU W H X Y).2.2.2:Nat)]∧S'=[]):=by
 have hiff:=aEj W H X Y;refine aJ func97 rfl ntmps97 rfl ⟨aE,.nil⟩ (fun n=>?_);simp only[aG];have bad:aA9 W H X Y=false→cU W H X Y=(0,0,0,0):=fun h=>by unfold cU;rw[h];rfl
 refine bI;refine nI rfl od bD ?_;refine mK;refine aCm 15 rfl (fun h=>?_) (fun h=>?_)
 ·have h':=of_decide_eq_true h;have hb:=bad (by rw[← Bool.not_eq_true,hiff];omega);refine mK;refine lH ?_;rw[hb];refine bI;exact aAn rfl rfl rfl rfl rfl (.nil _) ⟨rfl,rfl⟩
 have h1:=of_decide_eq_false h;refine mK;refine aCm 20 rfl (fun h=>?_) (fun h=>?_)
 ·have h':=of_decide_eq_true h;have hb:=bad (by rw[← Bool.not_eq_true,hiff];omega);refine mK;refine lH ?_;rw[hb];refine bI;exact aAn rfl rfl rfl rfl rfl (.nil _) ⟨rfl,rfl⟩
 have h2:=of_decide_eq_false h;refine mK;refine tN rfl rfl rfl (fun w _=>xO W w oo) ?_;refine mK;refine aCm 27 rfl (fun h=>?_) (fun h=>?_)
 ·have h':=of_decide_eq_true h;have hb:=bad (by rw[← Bool.not_eq_true,hiff];omega);refine mK;refine lH ?_;rw[hb];refine bI;exact aAn rfl rfl rfl rfl rfl (.nil _) ⟨rfl,rfl⟩
 have h3:=of_decide_eq_false h;refine mK;refine tN rfl rfl rfl (fun w _=>xO H w oo) ?_;refine mK;refine lH ?_;refine bI;refine fB rfl (fun h=>?_) (fun h=>?_)
 ·have h':=of_decide_eq_true h;have hb:=bad (by rw[← Bool.not_eq_true,hiff];omega);rw[hb];refine bI;exact aAn rfl rfl rfl rfl rfl (.nil _) ⟨rfl,rfl⟩
 have h4:=of_decide_eq_false h;have hok:aA9 W H X Y=true:=hiff.2 oo;have hbx:cU W H X Y=(16*X.toNat,16*Y.toNat,min 16 (W-16*X.toNat),min 16 (H-16*Y.toNat)):=by unfold cU;rw[if_pos hok]
 rw[hbx];unfold bC at h3 h4;refine bI;refine aAn rfl rfl rfl rfl rfl (.nil _) ⟨?_,rfl⟩;have e1:X*16=((16*X.toNat:Nat):Int):=oo;have e2:Y*16=((16*Y.toNat:Nat):Int):=oo;have e3:min 16 ((W:Int)-X*16)=((min 16 (W-16*X.toNat):Nat):Int):=oo;have e4:min 16 ((H:Int)-Y*16)=((min 16 (H-16*Y.toNat):Nat):Int):=oo;rw[e3,e4,e1,e2]
def vZ(W H:Int)(z:List Int):Int:=if W<2∨H<2∨256<W∨256<H then 2 else if (z.length:Int)=W*H then 0 else 5
theorem aJ6(W H:Int)(A:Option Addr)(c:Nat)(z:List Int)(w:World):
  aF prog 131 [.agg #[.int .i64 W,.int .i64 H,.slice A z.length c]] [] w (fun v S'=>v=.int .i64 (vZ W H z)∧S'=[]):=by
 refine aJ func131 rfl ntmps131 rfl ⟨aE,.nil⟩ (fun n=>?_);simp only[aG];unfold vZ;refine bI;refine nM 6 rfl (fun h=>?_) (fun h=>?_)
 ·have h':=of_decide_eq_true h;rw[if_pos oo];refine bI;exact aM rfl rfl (.nil _) ⟨rfl,rfl⟩
 have h1:=of_decide_eq_false h;refine bI;refine nM 11 rfl (fun h=>?_) (fun h=>?_)
 ·have h':=of_decide_eq_true h;rw[if_pos oo];refine bI;exact aM rfl rfl (.nil _) ⟨rfl,rfl⟩
 have h2:=of_decide_eq_false h;refine bI;refine nM 16 rfl (fun h=>?_) (fun h=>?_)
 ·have h':=of_decide_eq_true h;rw[if_pos oo];refine bI;exact aM rfl rfl (.nil _) ⟨rfl,rfl⟩
 have h3:=of_decide_eq_false h;refine bI;refine fB rfl (fun h=>?_) (fun h=>?_)
 ·have h':=of_decide_eq_true h;rw[if_pos oo];refine bI;exact aM rfl rfl (.nil _) ⟨rfl,rfl⟩
 have h4:=of_decide_eq_false h;have hab:0≤W*H∧W*H≤65536:=⟨Int.mul_nonneg oo oo,by have:=Int.mul_le_mul (by omega:W≤256) (by omega:H≤256) oo (by omega:(0:Int)≤256);omega⟩;rw[if_neg oo];refine bI;refine fB rfl (fun h=>?_) (fun h=>?_)
 ·rw[if_neg (by simpa using h)];refine bI;exact aM rfl rfl (.nil _) ⟨rfl,rfl⟩
 ·rw[if_pos (by simpa using h)];refine bI;exact aM rfl rfl (.nil _) ⟨rfl,rfl⟩
instance:gP (Tryz.t176.desc):=⟨by kernel_rfl⟩
instance:gP (Tryz.t40.desc):=⟨by kernel_rfl⟩
def yD(z:List Int)(W x y bw r:Nat):List Int:=(z.drop ((y+r)*W+x)).take bw
def lF(z:List Int)(W x y bw:Nat):Nat→List Int
 | 0=>[]
 | r+1=>lF z W x y bw r++yD z W x y bw r
def qS(W H:Nat)(z:List Int)(X Y:Int):List Int:=lF z W (cU W H X Y).1 (cU W H X Y).2.1 (cU W H X Y).2.2.1 (cU W H X Y).2.2.2
def pV(ys:List Int)(W x y bw:Nat)(z:List Int):Nat→List Int
 | 0=>z
 | r+1=>lay (pV ys W x y bw z r) ((y+r)*W+x) ((ys.drop (r*bw)).take bw)
theorem aA6{W H x y bw bh r:Nat}(hx:x+bw≤W)(hy:y+bh≤H)(hr:r<bh):(y+r)*W+x+bw≤W*H:=by have h1:(y+r+1)*W≤H*W:=Nat.mul_le_mul_right _ oo;rw[Nat.add_mul,Nat.one_mul]at h1;rw[Nat.mul_comm W H];omega
theorem aH4{z:List Int}{W H x y bw bh r:Nat}(hz:z.length=W*H)(hx:x+bw≤W)(hy:y+bh≤H)(hr:r<bh):(yD z W x y bw r).length=bw:=by have:=aA6 hx hy hr;unfold yD;rw[List.length_take,List.length_drop];omega
theorem yX{z:List Int}{W H x y bw bh:Nat}(hz:z.length=W*H)(hx:x+bw≤W)(hy:y+bh≤H):∀r,r≤bh→(lF z W x y bw r).length=r*bw
 | 0,_=>by simp[lF]
 | r+1,h=>by rw[lF,List.length_append,yX hz hx hy r oo,aH4 hz hx hy (by omega:r<bh),Nat.add_mul,Nat.one_mul]
theorem aAp{ys z:List Int}{W H x y bw bh:Nat}(hz:z.length=W*H)(hx:x+bw≤W)(hy:y+bh≤H)(hys:ys.length=bw*bh):∀r,r≤bh→(pV ys W x y bw z r).length=W*H
 | 0,_=>hz
 | r+1,h=>by
  have h1:=aAp hz hx hy hys r oo;have h2:=aA6 hx hy (by omega:r<bh);have h3:((ys.drop (r*bw)).take bw).length=bw:=by have h4:(r+1)*bw≤bh*bw:=Nat.mul_le_mul_right _ oo;rw[Nat.add_mul,Nat.one_mul,Nat.mul_comm bh]at h4;rw[List.length_take,List.length_drop];omega
  rw[pV,aL7 _ _ _ (by rw[h3,h1];omega),h1]
theorem aSo(W H:Nat)(A:Option Addr)(c:Nat)(z:List Int)(X Y:Int)(w:World)(hr:bP w (bB []) A z.length c 1 (aD .i16 z))(hX:bG .i64 X)(hY:bG .i64 Y)(hm:W≤256∧H≤256)(hz:z.length=W*H):
  aF prog 99 [.agg #[.int .i64 W,.int .i64 H,.slice A z.length c],.agg #[.int .i64 X,.int .i64 Y]] [] w (fun v S'=>∃A' c',v=.slice A' (qS W H z X Y).length c'∧S'=[.row (.slice A' (qS W H z X Y).length c') 95 1 (qS W H z X Y).length (aD .i16 (qS W H z X Y))]):=by
 have hbx:=vV W H X Y;have hWH:W*H≤65536:=by have:=Nat.mul_le_mul hm.1 hm.2;omega
 refine aJ func99 rfl ntmps99 rfl ⟨aE,.nil⟩ (fun n=>?_);simp only[aG];unfold qS;refine dH (e:=95) (size:=1) ?_;refine bI;rename_i b2 b3;refine bU rfl rfl rfl (fun w _=>aAa W H X Y w hX hY oo) ?_;generalize cU W H X Y=bx at *;obtain⟨x,y,bw,bh⟩:=bx;simp only at hbx ⊢;obtain⟨h1,h2,h3,h4⟩:=hbx;refine bI;refine cG (X:=Nat×Option Addr×Nat) (fun q=>q.1≤bh) (fun q=>[(2,.pointer (some ⟨b2,0,none⟩)),(5,.int .i64 x),(6,.int .i64 y),(7,.int .i64 bw),(9,.slice q.2.1 (lF z W x y bw q.1).length q.2.2),(23,.int .i64 bh),(24,.int .i64 q.1)])
  (fun q=>[.row (.slice q.2.1 (lF z W x y bw q.1).length q.2.2) 95 1 (lF z W x y bw q.1).length (aD .i16 (lF z W x y bw q.1)),.blk b2 41 [.int .i64 W,.int .i64 H,.slice A z.length c]]) (fun q=>bh-q.1) (0,none,0) aE ⟨rfl,rfl,rfl,rfl,rfl,rfl,rfl,trivial⟩ (.cons (.there _ (.there _ (.here _ _))) (.cons (.there _ (.here _ _)) (.nil _))) ?_
 rintro⟨r,A1,c1⟩ hr1;simp only at hr1 ⊢;have hcl:=yX hz h1 h2 r hr1;refine bI;refine fB rfl (fun h=>?_) (fun h=>?_)
 ·have hlt:r<bh:=by have:=of_decide_eq_true h;omega
  have hle:=aA6 h1 h2 hlt;have hcb:r*bw≤256:=by have:=Nat.mul_le_mul (by omega:r≤16) (by omega:bw≤16);omega
  have hcast:((y:Int)+r)*W+x=(((y+r)*W+x:Nat):Int):=by push_cast;rfl
  have hmul:((y:Int)+r)*W=(((y+r)*W:Nat):Int):=by push_cast;rfl
  have hmul2:0≤((y:Int)+r)*W∧((y:Int)+r)*W≤65536:=by rw[hmul];omega
  have hct:lF z W x y bw (r+1)=lF z W x y bw r++(z.drop ((y+r)*W+x)).take ((y+r)*W+x+bw-((y+r)*W+x)):=by rw[Nat.add_sub_cancel_left];rfl
  have hcap:z.length≤c:=by obtain⟨_,_,e1,e2,_⟩:=hr.h;injection e1 with _ e3 e4;omega
  refine bI;refine eY 38 _ rfl (v':=.int .i64 (((y+r)*W+x:Nat):Int)) (by rw[hcast]) ?_;refine eY 41 _ rfl (v':=.int .i64 (((y+r)*W+x+bw:Nat):Int)) (by rw[hcast];push_cast;rfl) ?_;refine aAo ((y+r)*W+x) ((y+r)*W+x+bw) hr oo (fun hsub=>?_);refine bI;rename_i A2 c2;exact aR (r+1,A2,c2) (by show r+1≤_;omega) (by show _-(r+1)<_-r;omega) ⟨rfl,rfl,rfl,rfl,by rw[hct];rfl,rfl,by simp[aI],trivial⟩ (by rw[hct];exact aA.au)
 ·obtain rfl:r=bh:=by have:=of_decide_eq_false h;omega
  refine bI;exact aM rfl rfl aA.au ⟨_,_,rfl,rfl⟩
theorem aVe(W H:Nat)(A B:Option Addr)(c d:Nat)(z ys:List Int)(X Y:Int)(w:World)(hown:aZ [.row (.slice A z.length c) 95 1 z.length (aD .i16 z)] w)(hr:bP w (bB [.row (.slice A z.length c) 95 1 z.length (aD .i16 z)]) B ys.length d 1 (aD .i16 ys))(hX:bG .i64 X)(hY:bG .i64 Y)(hm:2≤W∧W≤256∧2≤H∧H≤256)(hz:z.length=W*H)(hc:z.length≤c)(hyb:ys.length<1000000):
  aF prog 142 [.agg #[.int .i64 W,.int .i64 H,.slice A z.length c],.agg #[.int .i64 X,.int .i64 Y],.slice B ys.length d] [.row (.slice A z.length c) 95 1 z.length (aD .i16 z)] w
   (fun v S'=>(v=.bool true∧ys.length=(cU W H X Y).2.2.1*(cU W H X Y).2.2.2∧0<(cU W H X Y).2.2.1∧S'=[.row (.slice A z.length c) 95 1 z.length (aD .i16 (pV ys W (cU W H X Y).1 (cU W H X Y).2.1 (cU W H X Y).2.2.1 z (cU W H X Y).2.2.2))]) ∨
    (v=.bool false∧¬(ys.length=(cU W H X Y).2.2.1*(cU W H X Y).2.2.2∧0<(cU W H X Y).2.2.1)∧S'=[.row (.slice A z.length c) 95 1 z.length (aD .i16 z)])):=by
 have hbx:=vV W H X Y;have hWH:W*H≤65536:=by have:=Nat.mul_le_mul hm.2.1 hm.2.2.2;omega
 have hchk:vZ W H z=0:=by unfold vZ;rw[if_neg oo,if_pos (by rw[hz];push_cast;rfl)]
 refine aJ func142 rfl ntmps142 rfl hown (fun n=>?_);simp only[aG];refine bI;rename_i b3 b4;refine bU rfl rfl rfl (fun w _=>aAa W H X Y w hX hY oo) ?_;generalize cU W H X Y=bx at *;obtain⟨x,y,bw,bh⟩:=bx;simp only at hbx ⊢;obtain⟨h1,h2,h3,h4⟩:=hbx;have hbb:bw*bh≤256:=by have:=Nat.mul_le_mul h3 h4;omega
 have hbc:(bw:Int)*bh=((bw*bh:Nat):Int):=by push_cast;rfl
 have hbi:0≤(bw:Int)*bh∧(bw:Int)*bh≤256:=by rw[hbc];omega
 refine bI;refine bU (v:=.int .i64 0) rfl rfl rfl (fun w _=>(by have:=aJ6 W H A c z w;rw[hchk]at this;exact this)) ?_;refine bI;refine nM 34 rfl (fun h=>?_) (fun h=>?_)
 ·have hne:¬(ys.length:Int)=(bw:Int)*bh:=by simpa using h
  refine bI;exact aM rfl rfl (.cons (.there _ (.there _ (.here _ _))) (.nil _)) (.inr ⟨rfl,fun e=>hne (by rw[hbc,e.1]),rfl⟩)
 have hyl : ys.length = bw * bh := by have : (ys.length : Int) = (bw : Int) * bh := by simpa using h
                                      omega
 refine bI;refine fB rfl (fun h=>?_) (fun h=>?_)
 ·have h0 : bw = 0 := by have : (bw : Int) = 0 := by simpa using h
                         omega
  refine bI;exact aM rfl rfl (.cons (.there _ (.there _ (.here _ _))) (.nil _)) (.inr ⟨rfl,fun e=>by omega,rfl⟩)
 have h0 : 0 < bw := by have : ¬ (bw : Int) = 0 := by simpa using h
                        omega
 refine bI;refine cG (X:=Nat) (fun r=>r≤bh) (fun r=>[(2,.slice B ys.length d),(3,.pointer (some ⟨b3,0,none⟩)),(7,.int .i64 x),(8,.int .i64 y),(9,.int .i64 bw),(38,.int .i64 bh),(39,.int .i64 r)])
  (fun r=>[.row (.slice A z.length c) 95 1 z.length (aD .i16 (pV ys W x y bw z r)),.blk b3 41 [.int .i64 W,.int .i64 H,.slice A z.length c]]) (fun r=>bh-r) 0 aE ⟨rfl,rfl,rfl,rfl,rfl,rfl,rfl,trivial⟩ (.cons (.there _ (.there _ (.here _ _))) (.cons (.there _ (.here _ _)) (.nil _))) ?_
 intro r hr1;have hll:=aAp hz h1 h2 hyl r hr1;refine bI;refine fB rfl (fun h=>?_) (fun h=>?_)
 ·have hlt:r<bh:=by have:=of_decide_eq_true h;omega
  have hle:=aA6 h1 h2 hlt;have hcast:((y:Int)+r)*W+x=(((y+r)*W+x:Nat):Int):=by push_cast;rfl
  have hmul:((y:Int)+r)*W=(((y+r)*W:Nat):Int):=by push_cast;rfl
  have hmul2:0≤((y:Int)+r)*W∧((y:Int)+r)*W≤65536:=by rw[hmul];omega
  have hr2:(r+1)*bw≤bw*bh:=by rw[Nat.mul_comm bw bh];exact Nat.mul_le_mul_right _ oo
  have hr3:r*bw+bw=(r+1)*bw:=by rw[Nat.add_mul,Nat.one_mul]
  have hc1:(r:Int)*bw=((r*bw:Nat):Int):=by push_cast;rfl
  have hc2:((r:Int)+1)*bw=(((r+1)*bw:Nat):Int):=by push_cast;rfl
  have hm1:0≤(r:Int)*bw∧(r:Int)*bw≤256:=by rw[hc1];omega
  have hm2:0≤((r:Int)+1)*bw∧((r:Int)+1)*bw≤256:=by rw[hc2];omega
  refine bI;have hdd:ys.length≤d:=by obtain⟨_,_,e1,e2,_⟩:=hr.h;injection e1 with _ e3 e4;omega
  refine aAo (r*bw) ((r+1)*bw) hr oo (fun hsub=>?_);refine aIu 20 od bD ?_;refine mK;refine aFj 51 _ rfl (v':=.int .i64 (((y+r)*W+x:Nat):Int)) (by rw[hcast]) ?_;refine mK;refine aFj 56 _ rfl (v':=.int .i64 ((r*bw:Nat):Int)) (by rw[hc1]) ?_;refine aFj 60 _ rfl (v':=.int .i64 (((r+1)*bw:Nat):Int)) (by rw[hc2]) ?_;refine mK;refine lH ?_;have hls:pV ys W x y bw z (r+1)=lay (pV ys W x y bw z r) ((y+r)*W+x) ((ys.drop (r*bw)).take ((r+1)*bw-r*bw)):=by rw[show (r+1)*bw-r*bw=bw from by omega];rfl
  refine lcp (A:=A) (c:=c) (m:=z.length) (zs:=pV ys W x y bw z r) (l:=(y+r)*W+x) rfl rfl oo rfl ?_;refine bI;exact aR (r+1) (by show r+1≤_;omega) (by show _-(r+1)<_-r;omega) ⟨rfl,rfl,rfl,rfl,rfl,rfl,by simp[aI],trivial⟩ (by rw[hls];exact aA.au)
 ·obtain rfl:r=bh:=by have:=of_decide_eq_false h;omega
  refine bI;exact aM rfl rfl (.cons (.here _ _) (.nil _)) (.inl ⟨rfl,hyl,h0,rfl⟩)
