import Derived.Test.YtpmkboockihdbaaGreatP08
import Derived.Test.YtpmkboockihdbaaGreatP10
set_option maxHeartbeats 512000000
set_option maxRecDepth 4000
set_option linter.unusedVariables false
set_option linter.unusedSimpArgs false
namespace Go.Proofs.YtpmkboockihdbaaGreat
open Go.RowKit _root_.Go.Proofs.Tryz
def kL(xs:List Int)(k:Nat):List Bool:=xs.flatMap fun x=>lZ (lG x) k
def fN(xs:List Int):List Bool:=jQ (gQ xs) 5++kL xs (gQ xs)
def tS(xs:List Int):Prop:=∀x∈xs,lG x<131072
theorem wX(xs:List Int)(k:Nat):(kL xs k).length=jM xs k:=by unfold kL jM;rw[List.length_flatMap];congr 1;apply List.map_congr_left;intro x _;exact aK1 _ _
theorem aK2(xs:List Int)(x:Int)(k:Nat):kL (xs++[x]) k=kL xs k++lZ (lG x) k:=by simp[kL]
theorem vE(xs:List Int):gQ xs≤16:=aR7 xs 16
theorem aU7{x y:Int}(h:lG x=lG y):x=y:=(aU5 x y).1 (by rw[← yQ,← yQ,h])
theorem aCt{ys:List Int}{k:Nat}: ∀(zs xs:List Int) (q:Nat),fK ys q (kL zs k)→fK ys q (kL xs k)→zs.length≤xs.length→tS zs→tS xs→xs.take zs.length=zs
 | [],xs,q,_,_,_,_,_=>by simp
 | z::zs,[],q,_,_,h,_,_=>by simp at h
 | z::zs,x::xs,q,h1,h2,hl,f1,f2=>by have e1:kL (z::zs) k=lZ (lG z) k++kL zs k:=rfl;have e2:kL (x::xs) k=lZ (lG x) k++kL xs k:=rfl;rw[e1,gZ]at h1;rw[e2,gZ]at h2;obtain rfl:=aU7 (aSy (f1 z aE) (f2 x aE) h1.1 h2.1);rw[List.length_cons,List.take_succ_cons,aCt zs xs _ h1.2 h2.2 (by simpa using hl) (fun y hy=>f1 y (by simp[hy])) (fun y hy=>f2 y (by simp[hy]))]
theorem aD4{ys:List Int}{p x y:Nat}(hx:x<32)(hy:y<32)(h1:fK ys p (jQ x 5))(h2:fK ys p (jQ y 5)):x=y:=by have e1:=(pO.1 h1).2;have e2:=(pO.1 h2).2;rw[e1]at e2;omega
attribute [local irreducible] OJ J bO Code.wpIn wpListIn Oper.wpIn bodyPost CallsIn aF
theorem bAl(g c:Nat)(A:Option Addr)(bs:List Bool)(Al:Option Addr)(cl:Nat)(xs:List Int)(w:World)(hown:aZ (Wr g A c bs) w)(hr:bF w (aV (Wr g A c bs)) Al xs.length cl 1 (aC .i32 xs))(hx:xY xs)(hm:xs.length<1000000)(hb:bs.length<100000000):
  aF prog 157 [.pointer (some ⟨g,0,none⟩),.slice Al xs.length cl] (Wr g A c bs) w (fun v S'=>v=.tuple #[]∧∃A' c',S'=Wr g A' c' (bs++fN xs)):=by
 have hk:=vE xs;refine vN func157 rfl ntmps157 rfl hown (fun n=>?_);simp only[aG];refine bC;rename_i b2;refine bQ rfl rfl rfl (fun w1 hw=>aJb Al cl xs w1 ⟨hr.h.go hw (aD.nil _)⟩ hx hm) ?_;refine bC;rename_i b4;refine fS rfl rfl (aD.cons (.there _ (.there _ (.here _ _))) (aD.cons (.there _ (.there _ (.here _ _))) (aD.nil _))) rfl (fun w hw ho=>aGz g c A bs (gQ xs) 5 w ho oo oo oo) ?_;rintro v S' ⟨rfl,A1,c1,rfl⟩;refine bC;refine fS rfl rfl (aD.nil _) rfl (fun w hw ho=>aKw _ _ _ w) ?_;rintro v S' ⟨g3,rfl,rfl⟩;refine bC;have hbl:=aAp xs (gQ xs) hk;refine aAv (S0:=.blk g3 271 [.slice Al xs.length cl]::.blk b4 3 [.int .i64 (gQ xs)]::.blk b2 274 [.pointer (some ⟨g,0,none⟩)]::Wr g A1 c1 (bs++jQ (gQ xs) 5))
  (Rp:=fun D l pend S1=>pend=none∧∃A2 c2,S1=.blk g3 271 [.slice Al xs.length cl]::.blk b4 3 [.int .i64 (gQ xs)]::.blk b2 274 [.pointer (some ⟨g,0,none⟩)]::Wr g A2 c2 (bs++fN xs)) rfl (aD.cons (.here _ _) (aD.cons (.there _ (.there _ (.here _ _))) (aD.cons (.there _ (.there _ (.here _ _))) (aD.cons (.here _ _) (aD.cons (.here _ _) (aD.nil _)))))) (fun D l w1 LE hLE hw ho=>?_) ?_
 ·have hro:=hr.h.go hw (aD.cons (.there _ (.there _ (.here _ _))) (aD.cons (.here _ _) (aD.cons (.there _ (.there _ (.there _ (.here _ _)))) (aD.cons (.there _ (.there _ (.there _ (.here _ _)))) (aD.cons (.there _ (.here _ _)) (aD.cons (.there _ (.here _ _)) (aD.nil _)))))));refine aF.conv (aKv l g3 cl Al xs w1 (LE::.blk b4 3 [.int .i64 (gQ xs)]::.blk b2 274 [.pointer (some ⟨g,0,none⟩)]::Wr g A1 c1 (bs++jQ (gQ xs) 5))
   (fun i S=>∃A2 c2,S=LE::.blk b4 3 [.int .i64 (gQ xs)]::.blk b2 274 [.pointer (some ⟨g,0,none⟩)]::Wr g A2 c2 (bs++jQ (gQ xs) 5++kL (xs.take i) (gQ xs)))
   (ho.perm (List.Perm.swap _ _ _)) ⟨hro⟩ hx oo ⟨A1,c1,by simp[kL]⟩ ?_) (List.Perm.swap _ _ _) ?_
  ·rintro i S1 hi ⟨A2,c2,rfl⟩ w2 ho2;have hxi:=hx i hi;have hfl:=aKu _ hxi.1 hxi.2;have hcl:=wX (xs.take i) (gQ xs);have hb2:=aAp (xs.take i) (gQ xs) hk;rw[List.length_take]at hb2;have hsn:kL (xs.take (i+1)) (gQ xs)=kL (xs.take i) (gQ xs)++lZ (lG (xs.getD i 0)) (gQ xs):=by rw[List.take_succ_eq_append_getElem hi,aK2];simp[List.getD_eq_getElem?_getD,hi]
   subst hLE;refine uU (N:=23) ho2 rfl aE (fun n=>?_);simp only[over];refine bC;refine aF6 ?_;refine bC;refine fS rfl rfl (aD.cons (.there _ (.there _ (.there _ (.here _ _)))) (aD.cons (.there _ (.there _ (.there _ (.here _ _)))) (aD.nil _))) rfl (fun w hw ho=>aYw g c2 A2 _ (lG (xs.getD i 0)) (gQ xs) w ho (by simp[sD,hcl];omega) hfl hk) ?_;rintro v S' ⟨rfl,A3,c3,rfl⟩;refine bC;refine kF (H':=_::_::_::Wr g A3 c3 _) (aA.cons (.there _ (.there _ (.here _ _))) (aA.cons (.there _ (.there _ (.here _ _))) (aA.cons (.there _ (.there _ (.here _ _))) (aA.cons (.here _ _) (aA.cons (.here _ _) (aA.nil _)))))) ?_;refine aF7 (aA.refl _) ⟨rfl,A3,c3,?_⟩;rw[hsn,List.append_assoc _ (kL _ _)]
  ·rintro v S' ⟨-,S1,rfl,A2,c2,rfl⟩;rw[List.take_of_length_le (Nat.le_refl _)];exact⟨_,List.Perm.swap _ _ _,.ready,none,_,by rw[hLE],aE,rfl,A2,c2,by simp[fN]⟩
 ·rintro D l pend S1 ⟨rfl,A2,c2,rfl⟩;refine⟨fun _=>?_,fun c h=>by cases h⟩;refine bC;exact aVj (Ds:=[D]) (S':=Wr g A2 c2 (bs++fN xs)) rfl (aA.skip (aA.skip (aA.skip (aA.refl _) _) _) _) ⟨rfl,A2,c2,rfl⟩ .normal (.inl rfl)
def aQ5(g c:Nat)(A:Option Addr)(ys:List Int)(p n:Nat)(v:Value)(S':List HE):Prop :=
 ∃(xs:List Int) (Ax:Option Addr) (cx p':Nat) (ok wr:Bool),v=.tuple #[.slice Ax xs.length cx,.bool ok]∧S'=.row (.slice Ax xs.length cx) 21 1 xs.length (aC .i32 xs)::Rd g A c ys p' wr∧p'≤8*ys.length ∧
  ((ok=true∧wr=false∧xs.length=n∧tS xs∧xY xs∧p'=p+(fN xs).length∧fK ys p (fN xs))∨(ok=false∧∀zs,zs.length=n→tS zs→¬fK ys p (fN zs)))
theorem aVd(g c:Nat)(A:Option Addr)(ys:List Int)(p m:Nat)(w:World)(hown:aZ (Rd g A c ys p false) w)(hm:ys.length<100000000)(hp:p≤8*ys.length)(hn:m<100000):
  aF prog 258 [.pointer (some ⟨g,0,none⟩),.int .i64 m] (Rd g A c ys p false) w (aQ5 g c A ys p m):=by
 refine aJ func258 rfl ntmps258 rfl hown (fun n=>?_);simp only[aG];refine dD (e:=21) (size:=1) ?_;refine bC;refine fS rfl rfl (aD.cons (.there _ (.here _ _)) (aD.cons (.there _ (.here _ _)) (aD.nil _))) rfl (fun w hw ho=>aHs g c A ys p 5 false w ho hm hp oo) ?_;rintro v S' ⟨k,p1,wr1,rfl,hk,rfl,hp1,hk2⟩;have hk3:k<32:=hk;have hsplit:∀zs,fK ys p (fN zs)→fK ys p (jQ (gQ zs) 5)∧fK ys (p+5) (kL zs (gQ zs)):=fun zs h=>by
  have:=gZ.1 h
  rwa [sD]at this
 refine bC;rcases hk2 with⟨rfl,-,rfl,hat⟩ | ⟨rfl,hno⟩
 ·refine sZ (v:=.bool true) rfl rfl (aD.cons (.here _ _) (aD.cons (.here _ _) (aD.nil _))) (aA.refl _) rfl (fun w hw ho=>xN g c A ys _ false w ho) ?_;refine bC;refine oW 22 rfl (fun h1=>?_) (fun h1=>?_)
  ·have h16:16<k:=by have:=of_decide_eq_true h1;omega
   refine bC;refine cM rfl rfl rfl (S':=.row (.slice none 0 0) 21 1 0 (aC .i32 [])::Rd g A c ys (p+5) false) (.cons (.there _ (.there _ (.here _ _))) (aA.refl _)) ⟨[],none,0,p+5,false,false,rfl,rfl,hp1,.inr ⟨rfl,fun zs _ _ h=>?_⟩⟩;have:=aD4 (by have:=vE zs;omega) hk3 (hsplit zs h).1 hat
   have:=vE zs;omega
  ·have h16:k≤16:=by have:=of_decide_eq_false h1;omega
   refine bC;refine bT (X:=List Int×Option Addr×Nat) (fun x=>x.1.length≤m∧tS x.1∧xY x.1∧fK ys (p+5) (kL x.1 k)) (fun x=>[(0,.pointer (some ⟨g,0,none⟩)),(6,.int .i64 k),(7,.slice x.2.1 x.1.length x.2.2),(26,.int .i64 m),(27,.int .i64 x.1.length)])
    (fun x=>.row (.slice x.2.1 x.1.length x.2.2) 21 1 x.1.length (aC .i32 x.1)::Rd g A c ys (p+5+jM x.1 k) false) (fun x=>m-x.1.length) ([],none,0) ⟨aE,by simp[tS],by simp[xY],aVb.2 hp1⟩ ⟨rfl,rfl,rfl,rfl,rfl,trivial⟩ (.cons (.there _ (.there _ (.here _ _))) (aA.refl _)) ?_
   rintro⟨zs,Az,cz⟩ ⟨hz1,hz2,hz3,hz4⟩;simp only at hz1 hz2 hz3 hz4 ⊢;have hq:p+5+jM zs k≤8*ys.length:=by have:=hz4.1;rwa [wX]at this
   refine bC;refine fQ rfl (fun h=>?_) (fun h=>?_)
   ·have hlt:zs.length<m:=by have:=of_decide_eq_true h;omega
    refine bC;refine fS rfl rfl (aD.cons (.there _ (.here _ _)) (aD.cons (.there _ (.here _ _)) (aD.nil _))) rfl (fun w hw ho=>aUh g c A ys _ k w ho hm hq h16) ?_;rintro v S' ⟨x,p2,ok,wr,rfl,rfl,hp2,hx⟩;refine bC;rcases hx with⟨rfl,rfl,hx1,rfl,hxat⟩ | ⟨rfl,hxno⟩
    ·have hfu:lG (oG x)=x:=by have h1:=yQ (oG x);rw[aUa _ oo]at h1;omega
     have hur:=bCa x oo oo;refine bC;refine bQ (v:=.int .i32 (oG x)) rfl rfl rfl (fun w hw=>bCb x w oo oo) ?_;refine bC;have hsn:=aK2 zs (oG x) k;have hbs:jM (zs++[oG x]) k=jM zs k+qI x k:=by rw[← wX,← wX,hsn,List.length_append,aK1,hfu]
     refine aN (zs++[oG x],_,_) ⟨by simp;omega,fun y hy=>?_,fun i hi=>?_,?_⟩ (by show m-(zs++[oG x]).length<m-zs.length;simp;omega) ⟨rfl,rfl,rfl,rfl,by simp[aH],trivial⟩ ?_
     ·rcases List.mem_append.1 hy with hy|hy
      ·exact hz2 y hy
      ·rw[List.mem_singleton.1 hy,hfu];exact hx1
     ·rw[List.length_append,List.length_singleton]at hi;rcases Nat.lt_or_ge i zs.length with h5|h5
      ·have:=hz3 i h5;simpa [List.getD_eq_getElem?_getD,List.getElem?_append_left h5] using this
      ·obtain rfl:i=zs.length:=oo;simpa [List.getD_eq_getElem?_getD] using hur
     ·rw[hsn,gZ,wX,hfu];exact⟨hz4,hxat⟩
     ·simp only[hbs,← Nat.add_assoc];exact aA.au
    ·refine bC;refine dD (e:=21) (size:=1) ?_;refine cM rfl rfl rfl (S':=.row (.slice none 0 0) 21 1 0 (aC .i32 [])::Rd g A c ys p2 wr) ?_ ⟨[],none,0,p2,false,wr,rfl,rfl,hp2,.inr ⟨rfl,fun us hu1 hu2 h=>?_⟩⟩
     ·exact .cons (.here _ _) (.cons (.here _ _) (.cons (.here _ _) (.nil _)))
     ·have hs:=hsplit us h;have e:=aD4 (by have:=vE us;omega) hk3 hs.1 hat
      rw[e]at hs;have hpre:=aCt zs us _ hz4 hs.2 oo hz2 hu2;have e2:us=us.take zs.length++us.getD zs.length 0::us.drop (zs.length+1):=by rw[List.getD_eq_getElem?_getD,List.getElem?_eq_getElem oo,Option.getD_some,← List.drop_eq_getElem_cons,List.take_append_drop]
      have hs2:=hs.2;rw[e2,hpre]at hs2;have e3:kL (zs++us.getD zs.length 0::us.drop (zs.length+1)) k=kL zs k++(lZ (lG (us.getD zs.length 0)) k++kL (us.drop (zs.length+1)) k):=by simp[kL]
      rw[e3,gZ,gZ,wX]at hs2;refine hxno _ (hu2 _ ?_) hs2.2.1;rw[List.getD_eq_getElem?_getD,List.getElem?_eq_getElem oo,Option.getD_some];exact List.getElem_mem _
   ·have hge:zs.length=m:=by have:=of_decide_eq_false h;omega
    refine bC;refine bQ rfl rfl rfl (fun w1 hw=>aJb Az cz zs w1 ⟨Ro.row hw (aD.nil _) (.here _ _)⟩ hz3 oo) ?_;refine bC;refine cM rfl rfl rfl (aA.refl _) ⟨zs,Az,cz,_,_,false,rfl,rfl,hq,?_⟩;have hrl:(jQ (gQ zs) 5++kL zs (gQ zs)).length=5+jM zs (gQ zs):=by rw[List.length_append,sD,wX]
    by_cases hbk:gQ zs=k
    ·refine .inl ⟨by simp[hbk],rfl,hge,hz2,hz3,?_,?_⟩
     ·unfold fN;rw[hrl,hbk,Nat.add_assoc]
     ·unfold fN;rw[gZ,sD,hbk];exact⟨hat,hz4⟩
    ·refine .inr ⟨by simp;omega,fun us hu1 hu2 h=>hbk ?_⟩;have hs:=hsplit us h;have e:=aD4 (by have:=vE us;omega) hk3 hs.1 hat
     rw[e]at hs;have hpre:=aCt zs us _ hz4 hs.2 oo hz2 hu2;rw[List.take_of_length_le oo]at hpre;rw[← hpre];exact e
 ·refine sZ (v:=.bool false) rfl rfl (aD.cons (.here _ _) (aD.cons (.here _ _) (aD.nil _))) (aA.refl _) rfl (fun w hw ho=>xN g c A ys _ true w ho) ?_;refine bC;refine cM rfl rfl rfl (S':=.row (.slice none 0 0) 21 1 0 (aC .i32 [])::Rd g A c ys p1 true) (.cons (.there _ (.there _ (.here _ _))) (aA.refl _)) ⟨[],none,0,p1,false,true,rfl,rfl,hp1,.inr ⟨rfl,fun zs _ _ h=>hno rfl _ (hsplit zs h).1⟩⟩
def p2(k:Nat):Nat:=2^k
theorem aHx{xs zs:List Int}{p:Nat}{ys:List Int}(h1:fK ys p (fN xs))(h2:fK ys p (fN zs))(hl:zs.length=xs.length)(f1:tS xs)(f2:tS zs):zs=xs:=by unfold fN at h1 h2;rw[gZ,sD]at h1 h2;have e:=aD4 (by have:=vE zs;omega) (by have:=vE xs;omega) h2.1 h1.1;rw[e]at h2;have:=aCt xs zs _ h1.2 h2.2 oo f1 f2;rw[← hl,List.take_of_length_le oo]at this;exact this
theorem aO0(xs:List Int):(fN xs).length=5+jM xs (gQ xs):=by unfold fN;rw[List.length_append,sD,wX]
def kE(z:List Int)(w i:Nat):Int:=if 0<i%w then z.getD (i-1) 0 else if 0<i then z.getD (i-w) 0 else 0
def pM(z:List Int)(w i:Nat):Int:=z.getD i 0-kE z w i
def eU(z:List Int)(w:Nat):List Int:=(List.range z.length).map (pM z w)
theorem vK(z:List Int)(w:Nat):(eU z w).length=z.length:=by simp[eU]
def uE(xs:List Int)(i:Nat):List Int:=xs.take i++List.replicate (xs.length-i) 0
theorem aTx(xs:List Int):uE xs 0=List.replicate xs.length 0:=by simp[uE]
theorem aTy(xs:List Int):uE xs xs.length=xs:=by simp[uE]
theorem aTz(xs:List Int)(i:Nat)(h:i≤xs.length):(uE xs i).length=xs.length:=by simp[uE];omega
theorem aU0(xs:List Int)(i:Nat)(h:i<xs.length):(uE xs i).set i (xs.getD i 0)=uE xs (i+1):=by
 have hl:(xs.take i).length=i:=by rw[List.length_take];omega
 unfold uE;rw[List.set_append_right _ _ oo,hl,Nat.sub_self,List.take_succ_eq_append_getElem h,List.append_assoc,show xs.length-i=(xs.length-(i+1))+1 from by omega,List.replicate_succ,List.set_cons_zero];simp[List.getD_eq_getElem?_getD,h]
def dK(z:List Int):Prop:=∀i,-32768≤z.getD i 0∧z.getD i 0≤32767
theorem aLf{z:List Int}(h:∀x∈z,aP .i16 x):dK z:=fun i=>by
 rcases Nat.lt_or_ge i z.length with hi|hi
 ·exact h (z.getD i 0) (by rw[List.getD_eq_getElem?_getD,List.getElem?_eq_getElem hi];exact List.getElem_mem _)
 ·rw[List.getD_eq_getElem?_getD,List.getElem?_eq_none hi];simp
theorem aD7{z:List Int}(h:dK z)(w i:Nat): -32768≤kE z w i∧kE z w i≤32767:=by
 unfold kE;split
 ·exact h _
 ·split
  ·exact h _
  ·omega
def vZ(w h:Int):Bool:=decide (1≤w)&&(decide (1≤h)&&(decide (w≤16)&&decide (h≤16)))
theorem aNv(a b:Int)(w:World):aF prog 155 [.int .i64 a,.int .i64 b] [] w (fun v S'=>v=.bool (vZ a b)∧S'=[]):=by
 refine aJ func155 rfl ntmps155 rfl ⟨aE,.nil⟩ (fun n=>?_);simp only[aG];unfold vZ;refine bN;refine oW 7 rfl (fun h1=>?_) (fun h1=>?_)
 ·rw[h1];refine bN;refine oW 11 rfl (fun h2=>?_) (fun h2=>?_)
  ·rw[h2];refine bN;refine oW 15 rfl (fun h3=>?_) (fun h3=>?_)
   ·rw[h3];refine bN;exact aK rfl rfl (.nil _) ⟨aE,rfl⟩
   ·rw[h3];refine bN;exact aK rfl rfl (.nil _) ⟨aE,rfl⟩
  ·rw[h2];refine bN;exact aK rfl rfl (.nil _) ⟨aE,rfl⟩
 ·rw[h1];refine bN;exact aK rfl rfl (.nil _) ⟨aE,rfl⟩
theorem aL9(A:Option Addr)(c:Nat)(z:List Int)(wd i:Nat)(w:World)(hr:bF w (aV []) A z.length c 1 (aC .i16 z))(hz:dK z)(hi:i<z.length)(hw:0<wd)(hm:z.length<1000000∧wd<1000000):
  aF prog 156 [.slice A z.length c,.int .i64 wd,.int .i64 i] [] w (fun v S'=>v=.int .i32 (kE z wd i)∧S'=[]):=by
 refine aJ func156 rfl ntmps156 rfl ⟨aE,.nil⟩ (fun n=>?_);simp only[aG];have hmod:((i:Int)%(wd:Int))=((i%wd:Nat):Int):=oo;obtain⟨bA,oA,rfl,hat⟩:=hr.at_ (by omega:0<z.length);refine bN;refine fQ rfl (fun h=>?_) (fun h=>?_)
 ·have h1:0<i%wd:=by have:=of_decide_eq_true h;omega
  have hz1:=hz ((i:Int)-1).toNat
  have hi0:0<i:=by
   rcases Nat.eq_zero_or_pos i with e|e
   ·subst e;simp at h1
   ·exact e
  have e:kE z wd i=z.getD ((i:Int)-1).toNat 0:=by rw[kE,if_pos h1,show ((i:Int)-1).toNat=i-1 from by omega]
  rw[e];refine bN;exact aK rfl rfl (.nil _) ⟨rfl,rfl⟩
 ·have h1:¬0<i%wd:=by have:=of_decide_eq_false h;omega
  refine bN;refine fQ rfl (fun h2=>?_) (fun h2=>?_)
  ·have hi0:0<i:=by have:=of_decide_eq_true h2;omega
   have hle:wd≤i:=by
    rcases Nat.lt_or_ge i wd with h3|h3
    ·rw[Nat.mod_eq_of_lt h3]at h1;omega
    ·exact h3
   have hz1:=hz ((i:Int)-wd).toNat
   have e:kE z wd i=z.getD ((i:Int)-wd).toNat 0:=by rw[kE,if_neg h1,if_pos hi0,show ((i:Int)-wd).toNat=i-wd from by omega]
   rw[e];refine bN;exact aK rfl rfl (.nil _) ⟨rfl,rfl⟩
  ·have hi0:¬0<i:=by have:=of_decide_eq_false h2;omega
   have e:kE z wd i=0:=by rw[kE,if_neg h1,if_neg hi0]
   rw[e];refine bN;exact aK rfl rfl (.nil _) ⟨rfl,rfl⟩
def vY(wd h:Int)(z:List Int):Option (List Int):=if vZ wd h=true∧(z.length:Int)=wd*h then some (dT (fN (eU z wd.toNat)))else none
def aA5(wd h:Int)(z:List Int):Int:=if vZ wd h=true∧(z.length:Int)=wd*h then 0 else 5
theorem aHr(a b:Int):vZ a b=true↔1≤a∧1≤b∧a≤16∧b≤16:=by simp[vZ]
theorem aAz{z:List Int}(hz:dK z)(w:Nat):tS (eU z w):=fun x hx=>by obtain⟨i,-,rfl⟩:=List.mem_map.1 hx;have h1:=hz i;have h2:=aD7 hz w i;have h3:=yQ (pM z w i);unfold pM at h3 ⊢;unfold oV at h3;split at h3<;>omega
theorem yM(z:List Int)(w i:Nat)(h:i<z.length):(eU z w).getD i 0=pM z w i:=by simp[eU,List.getD_eq_getElem?_getD,h]
theorem aTd{z:List Int}(hz:dK z)(w:Nat):xY (eU z w):=fun i hi=>by rw[vK]at hi;rw[yM z w i hi];have h1:=hz i;have h2:=aD7 hz w i;unfold pM;omega
theorem aYu(A:Option Addr)(c:Nat)(z:List Int)(a b:Int)(w:World)(hr:bF w (aV []) A z.length c 1 (aC .i16 z))(hz:dK z)(hm:z.length<100000):
  aF prog 104 [.int .i64 a,.int .i64 b,.slice A z.length c] [] w (fun v S'=>∃A' c',v=.tuple #[.slice A' ((vY a b z).getD []).length c',.int .i64 (aA5 a b z)]∧S'=[.row (.slice A' ((vY a b z).getD []).length c') 5 1 ((vY a b z).getD []).length (aC .u8 ((vY a b z).getD []))]):=by
 refine aJ func104 rfl ntmps104 rfl ⟨aE,.nil⟩ (fun n=>?_);simp only[aG];refine bN;refine bQ rfl rfl rfl (fun w _=>aNv a b w) ?_;cases hR:vZ a b with
 | false =>
  have e1:vY a b z=none:=if_neg (by rw[hR];simp);have e2:aA5 a b z=5:=if_neg (by rw[hR];simp);rw[e1,e2];refine bN;refine dD (e:=5) (size:=1) ?_;exact cM rfl rfl rfl (aA.refl _) ⟨none,0,rfl,rfl⟩
 | true =>
  obtain⟨ha1,hb1,ha2,hb2⟩:=(aHr a b).1 hR;have hab:0≤a*b∧a*b≤256:=⟨Int.mul_nonneg oo oo,by have:=Int.mul_le_mul ha2 hb2 oo (by omega:(0:Int)≤16);omega⟩;refine bN;refine fQ rfl (fun h=>?_) (fun h=>?_)
  ·have hne:¬(z.length:Int)=a*b:=by simpa using h
   have e1:vY a b z=none:=if_neg (by rw[hR];simp[hne]);have e2:aA5 a b z=5:=if_neg (by rw[hR];simp[hne]);rw[e1,e2];refine bN;refine dD (e:=5) (size:=1) ?_;exact cM rfl rfl rfl (aA.refl _) ⟨none,0,rfl,rfl⟩
  have heq:(z.length:Int)=a*b:=by simpa using h
  have hz256:z.length≤256:=oo;obtain⟨wd,rfl⟩:∃wd:Nat,a=(wd:Int):=⟨a.toNat,oo⟩;have e1:vY wd b z=some (dT (fN (eU z wd))):=if_pos ⟨hR,heq⟩;have e2:aA5 wd b z=0:=if_pos ⟨hR,heq⟩;have hdl:=vK z wd;rw[e1,e2];refine bN;rename_i b8 b9;refine bT (X:=Nat) (fun i=>i≤z.length) (fun i=>[(0,.int .i64 wd),(2,.slice A z.length c),(8,.pointer (some ⟨b8,0,none⟩)),(9,.slice (some ⟨b9,0,none⟩) z.length z.length),(27,.slice A z.length c),(28,.int .i64 z.length),(29,.int .i64 i)])
   (fun i=>[.row (.slice (some ⟨b9,0,none⟩) z.length z.length) 21 1 z.length (aC .i32 (uE (eU z wd) i)),.blk b8 270 [.slice none 0 0,.int .i64 0]]) (fun i=>z.length-i) 0 aE ⟨rfl,rfl,rfl,rfl,rfl,rfl,rfl,trivial⟩ (by rw[aTx,hdl];exact aA.refl _) ?_
  intro i hi;have hfl:=aTz (eU z wd) i oo;refine bN;refine fQ rfl (fun h=>?_) (fun h=>?_)
  ·have hlt:i<z.length:=by have:=of_decide_eq_true h;omega
   have hfs:=aU0 (eU z wd) i oo;rw[yM z wd i hlt,pM]at hfs;have hz1:=hz i;have hg:=aD7 hz wd i;obtain⟨bA,oA,rfl,hat⟩:=hr.at_ (by omega:0<z.length);refine bN;refine bQ rfl rfl rfl (fun w hw=>aL9 _ c z wd i w ⟨hr.h.go hw (aD.nil _)⟩ hz hlt oo oo) ?_;refine bN;refine aN (i+1) (by show i+1≤_;omega) (by show _-(i+1)<_-i;omega) ⟨rfl,rfl,rfl,rfl,rfl,rfl,by simp[aH],trivial⟩ (by rw[← hfs];exact aA.au)
  ·obtain rfl:i=z.length:=by have:=of_decide_eq_false h;omega
   have hrl:=aO0 (eU z wd);have hbk:=vE (eU z wd);have hbs:=aAp (eU z wd) (gQ (eU z wd)) hbk;have hpl:=sE (fN (eU z wd));have hfa:=aTy (eU z wd);rw[hdl]at hfa;rw[hfa,← hdl];refine bN;refine dD (e:=5) (size:=1) ?_;refine fS (S:=Wr b8 none 0 []) rfl rfl (aD.cons (.there _ (.there _ (.here _ _))) (aD.cons (.here _ _) (aD.nil _))) rfl (fun w hw ho=>bAl b8 0 none [] (some ⟨b9,0,none⟩) (eU z wd).length (eU z wd) w ho ⟨Ro.row hw (aD.cons (.there _ (.there _ (.here _ _))) (aD.cons (.here _ _) (aD.nil _))) (.here _ _)⟩ (aTd hz wd) oo aE) ?_;rintro v S' ⟨rfl,A2,c2,rfl⟩;simp only[List.nil_append];refine bN;refine lf rfl rfl rfl (fun w hw ho=>aRm b8 c2 A2 (fN (eU z wd)) w ho oo) ?_;rintro v S' ⟨A4,c4,rfl,rfl⟩;refine bN;exact cM rfl rfl rfl (.cons (.here _ _) (.nil _)) ⟨A4,c4,rfl,rfl⟩
theorem aRi:∀x:Fin 256,(128*(if bits .and .u8 ((x:Nat):Int) (128/2^0) != 0 then 1 else 0)+64*(if bits .and .u8 ((x:Nat):Int) (128/2^1) != 0 then 1 else 0)+32*(if bits .and .u8 ((x:Nat):Int) (128/2^2) != 0 then 1 else 0)+16*(if bits .and .u8 ((x:Nat):Int) (128/2^3) != 0 then 1 else 0)+8*(if bits .and .u8 ((x:Nat):Int) (128/2^4) != 0 then 1 else 0)+4*(if bits .and .u8 ((x:Nat):Int) (128/2^5) != 0 then 1 else 0)+2*(if bits .and .u8 ((x:Nat):Int) (128/2^6) != 0 then 1 else 0)+(if bits .and .u8 ((x:Nat):Int) (128/2^7) != 0 then 1 else 0):Nat)=(x:Nat):=by decide +kernel
theorem aR9(ys:List Int)(i:Nat)(h:i<8*ys.length):lR (wA ys) i=if kA ys i then 1 else 0:=by unfold lR;rw[aHv ys i h]
theorem aY8{ys:List Int}(hu:dV ys)(j:Nat)(h:j<ys.length):(jV (wA ys) j:Int)=ys.getD j 0:=by
 have hmem:ys.getD j 0∈ys:=by rw[List.getD_eq_getElem?_getD,List.getElem?_eq_getElem h];exact List.getElem_mem _
 obtain⟨x,hx,hx2⟩:∃x:Nat,ys.getD j 0=(x:Int)∧x<256:=by have:=hu _ hmem;exact⟨(ys.getD j 0).toNat,oo,oo⟩
 have hb:∀r,r<8→lR (wA ys) (8*j+r)=if bits .and .u8 (x:Int) (128/2^r) != 0 then 1 else 0:=by intro r hr;rw[aR9 ys _ oo];unfold kA;rw[show (8*j+r)/8=j from by omega,show (8*j+r)%8=r from by omega,hx]
 have h0:=hb 0 oo;rw[Nat.add_zero]at h0;unfold jV;rw[h0,hb 1 oo,hb 2 oo,hb 3 oo,hb 4 oo,hb 5 oo,hb 6 oo,hb 7 oo,hx];exact congrArg Nat.cast (aRi ⟨x,hx2⟩)
theorem aYb{ys:List Int}(hu:dV ys):dT (wA ys)=ys:=by
 apply List.ext_getElem?;intro j;rw[getElem?_pack,aHw];by_cases h:j<ys.length
 ·rw[if_pos oo,aY8 hu j h,List.getD_eq_getElem?_getD,List.getElem?_eq_getElem h];rfl
 ·rw[if_neg oo,List.getElem?_eq_none oo]
theorem aY7{a b:List Bool}(h:∀i,a.getD i false=b.getD i false)(j:Nat):jV a j=jV b j:=by unfold jV lR;simp only[h]
theorem aYa{ys:List Int}{l:List Bool}(hu:dV ys)(h1:fK ys 0 l)(h2:8*ys.length≤l.length+7)(h3:∀i,l.length≤i→i<8*ys.length→kA ys i=false):dT l=ys:=by
 have hl:=h1.1;rw[← aYb hu];have hg:∀i,l.getD i false=(wA ys).getD i false:=by
  intro i;rcases Nat.lt_or_ge i l.length with h|h
  ·rw[aHv ys i oo,← h1.2 i h,Nat.zero_add]
  ·have e1:l.getD i false=false:=by rw[List.getD_eq_getElem?_getD,List.getElem?_eq_none h];rfl
   rw[e1];rcases Nat.lt_or_ge i (8*ys.length) with h4|h4
   ·rw[aHv ys i h4,h3 i h h4]
   ·rw[List.getD_eq_getElem?_getD,List.getElem?_eq_none (by rw[aHw];exact h4)];rfl
 apply List.ext_getElem?;intro j;rw[getElem?_pack,getElem?_pack,aY7 hg,aHw,show (l.length+7)/8=(8*ys.length+7)/8 from by omega]
theorem aYd{l:List Bool}(i:Nat)(h:l.length≤i)(h2:i<8*(dT l).length):kA (dT l) i=false:=by
 rw[sE]at h2;have e:(dT l).getD (i/8) 0=(jV l (i/8):Nat):=by rw[List.getD_eq_getElem?_getD,getElem?_pack,if_pos oo];rfl
 unfold kA;rw[e,aJ7 ⟨jV l (i/8),aBm _ _⟩ ⟨i%8,oo⟩];show (jV l (i/8)/2^(7-i%8)%2==1)=_;rw[aN9 l (i/8) (i%8) oo,show 8*(i/8)+i%8=i from by omega,aJd l i h];rfl
theorem aSx(g c:Nat)(A:Option Addr)(ys:List Int)(p:Nat)(w:World)(hown:aZ (Rd g A c ys p false) w)(hm:ys.length<100000000)(hp:p≤8*ys.length):
  aF prog 259 [.pointer (some ⟨g,0,none⟩)] (Rd g A c ys p false) w (fun v S'=>∃(ok:Bool) (p':Nat) (wr:Bool),v=.bool ok∧S'=Rd g A c ys p' wr∧(ok=true↔8*ys.length≤p+7∧∀i,p≤i→i<8*ys.length→kA ys i=false)):=by
 refine aJ func259 rfl ntmps259 rfl hown (fun n=>?_);simp only[aG];refine bN;refine lk (v:=.int .i64 (8*ys.length-p)) rfl rfl rfl (fun w hw ho=>zX g c A ys p false w ho hm hp) ?_;refine bN;refine fQ rfl (fun h=>?_) (fun h=>?_)
 ·have h1:=of_decide_eq_true h;refine bN;exact aK rfl rfl (aA.refl _) ⟨false,p,false,rfl,rfl,by simp;omega⟩
 have h1:=of_decide_eq_false h;refine bN;refine bT (X:=Nat) (fun i=>p≤i∧i≤8*ys.length∧∀j,p≤j→j<i→kA ys j=false) (fun _=>[(0,.pointer (some ⟨g,0,none⟩))]) (fun i=>Rd g A c ys i false) (fun i=>8*ys.length-i) p ⟨Nat.le_refl _,hp,fun j h1 h2=>by omega⟩ ⟨rfl,trivial⟩ (aA.refl _) ?_;rintro i ⟨hi1,hi2,hi3⟩;refine bN;refine lk (v:=.int .i64 (8*ys.length-i)) rfl rfl rfl (fun w hw ho=>zX g c A ys i false w ho hm hi2) ?_;refine bN;refine fQ rfl (fun h=>?_) (fun h=>?_)
 ·have hlt:i<8*ys.length:=by have:=of_decide_eq_true h;omega
  refine bN;refine lf rfl rfl rfl (fun w hw ho=>aDx g c A ys i w ho hm hlt) ?_;rintro v S' ⟨rfl,rfl⟩;refine bN;refine fQ rfl (fun h2=>?_) (fun h2=>?_)
  ·refine bN;exact aK rfl rfl (aA.refl _) ⟨false,i+1,false,rfl,rfl,by simp;intro _;exact⟨i,hi1,hlt,h2⟩⟩
  ·refine bN;refine aN (i+1) ⟨oo,oo,fun j h5 h6=>?_⟩ (by show _-(i+1)<_-i;omega) ⟨rfl,trivial⟩ (aA.refl _);by_cases e:j=i
   ·subst e;exact h2
   ·exact hi3 j h5 oo
 ·have hge:i=8*ys.length:=by have:=of_decide_eq_false h;omega
  subst hge;refine bN;exact aK rfl rfl (aA.refl _) ⟨true,_,false,rfl,rfl,by simp;exact⟨oo,hi3⟩⟩
theorem aB4{a b:List Int}{j:Nat}(h:j<a.length):(a++b).getD j 0=a.getD j 0:=by simp[List.getD_eq_getElem?_getD,List.getElem?_append_left h]
theorem aG2{a b:List Int}{w i:Nat}(hw:0<w)(h:i≤a.length):kE (a++b) w i=kE a w i:=by
 unfold kE;by_cases h1:0<i%w
 ·have hi:0<i:=by
   rcases Nat.eq_zero_or_pos i with e|e
   ·subst e;simp at h1
   ·exact e
  rw[if_pos h1,if_pos h1,aB4 oo]
 ·rw[if_neg h1,if_neg h1];by_cases h2:0<i
  ·rw[if_pos h2,if_pos h2,aB4 oo]
  ·rw[if_neg h2,if_neg h2]
theorem aG3{p:List Int}{w n:Nat}(hw:0<w)(h:n≤p.length):kE p w n=kE (p.take n) w n:=by
 conv=>lhs;rw[← List.take_append_drop n p]
 exact aG2 hw (by rw[List.length_take];omega)
theorem aKh{w:Nat}(hw:0<w)(p z:List Int)(hl:p.length≤z.length)(h:∀j,j<p.length→pM p w j=pM z w j):∀n,n≤p.length→z.take n=p.take n:=by
 intro n
 induction n with
 | zero=>intro _;simp
 | succ n ih =>
  intro hn;have h1:=ih oo;have h2:=h n oo;unfold pM at h2;rw[aG3 hw (by omega:n≤p.length),aG3 hw (by omega:n≤z.length),h1]at h2;rw[List.take_succ_eq_append_getElem (by omega:n<z.length),List.take_succ_eq_append_getElem (by omega:n<p.length),h1];have e1:p.getD n 0=p[n]:=by rw[List.getD_eq_getElem?_getD,List.getElem?_eq_getElem oo];rfl
  have e2:z.getD n 0=z[n]:=by rw[List.getD_eq_getElem?_getD,List.getElem?_eq_getElem oo];rfl
  rw[e1,e2]at h2;rw[show z[n]=p[n]from by omega]
def pZ(p:List Int)(n:Nat):List Int:=p++List.replicate (n-p.length) 0
theorem aR4(p:List Int)(n:Nat)(h:p.length≤n):(pZ p n).length=n:=by simp[pZ];omega
theorem aR5(p:List Int)(n:Nat)(x:Int)(h:p.length<n):(pZ p n).set p.length x=pZ (p++[x]) n:=by unfold pZ;rw[List.set_append_right _ _ oo,Nat.sub_self,show n-p.length=(n-(p++[x]).length)+1 from by simp;omega,List.replicate_succ,List.set_cons_zero];simp
theorem aR3(p:List Int):pZ p p.length=p:=by simp[pZ]
theorem aV4{p:List Int}(h:dK p)(n:Nat):dK (pZ p n):=by
 intro i;unfold pZ;rcases Nat.lt_or_ge i p.length with h1|h1
 ·rw[aB4 h1];exact h i
 ·rw[List.getD_eq_getElem?_getD,List.getElem?_append_right h1,List.getElem?_replicate];split<;>simp
theorem aV5{p:List Int}(h:dK p){x:Int}(h1 : -32768≤x)(h2:x≤32767):dK (p++[x]):=by
 intro i;rcases Nat.lt_trichotomy i p.length with h3|h3|h3
 ·rw[aB4 h3];exact h i
 ·subst h3;simp[List.getD_eq_getElem?_getD];omega
 ·rw[List.getD_eq_getElem?_getD,List.getElem?_eq_none (by simp;omega)];simp
def aAj(m:Nat)(ys:List Int):Prop:=∃xs:List Int,xs.length=m∧tS xs∧dT (fN xs)=ys
def aQ3(wd h:Nat)(ys:List Int)(v:Value)(S':List HE):Prop :=
 ∃(zs:List Int) (A:Option Addr) (c:Nat) (code:Int) (T:List HE),v=.tuple #[.slice A zs.length c,.int .i64 code]∧S'=.row (.slice A zs.length c) 121 1 zs.length (aC .i16 zs)::T ∧
  ((code=0∧zs.length=wd*h∧dK zs∧dT (fN (eU zs wd))=ys)∨(((code=3∧¬aAj (wd*h) ys)∨(code=2∧aAj (wd*h) ys))∧zs=[]∧∀z,z.length=wd*h→dK z→dT (fN (eU z wd))≠ys))
theorem aUe(A:Option Addr)(c:Nat)(ys:List Int)(wd h:Nat)(w:World)(hr:bF w (aV []) A ys.length c 1 (aC .u8 ys))(hu:dV ys)(hm:ys.length<100000)(hwh:1≤wd∧wd≤16∧1≤h∧h≤16):
  aF prog 213 [.int .i64 wd,.int .i64 h,.slice A ys.length c] [] w (aQ3 wd h ys):=by
 have hab:wd*h≤256:=by have:=Nat.mul_le_mul hwh.2.1 hwh.2.2.2;omega
 have hR:vZ wd h=true:=(aHr _ _).2 oo;have hcast:(wd:Int)*(h:Int)=((wd*h:Nat):Int):=by push_cast;rfl
 refine aJ func213 rfl ntmps213 rfl ⟨aE,.nil⟩ (fun n=>?_);simp only[aG];refine bN;refine bQ (v:=.bool true) rfl rfl rfl (fun w _=>(by have:=aNv wd h w;rw[hR]at this;exact this)) ?_;refine bN;refine lf rfl rfl rfl (S:=[]) (fun w hw ho=>bA5 _ ys w (hr.h.go hw (aD.nil _)) oo) ?_;rintro v S' ⟨g,A5,c5,rfl,rfl⟩;refine bN;rw[hcast];refine lf rfl rfl rfl (fun w hw ho=>aVd g c5 A5 ys 0 (wd*h) w ho oo oo oo) ?_;rintro v S' ⟨xs,Ax,cx,p',ok,wr,rfl,rfl,hp',hok⟩;have hno3:(∀z:List Int,z.length=wd*h→dK z→fK ys 0 (fN (eU z wd))→False)→∀z,z.length=wd*h→dK z→dT (fN (eU z wd))≠ys:=by intro hf z hz1 hz2 he;exact hf z hz1 hz2 (by rw[← he];exact aB7 _)
 rcases hok with⟨rfl,rfl,hxl,hxf,hxi,rfl,hxat⟩ | ⟨rfl,hno⟩
 rotate_left
 ·refine bN;refine dD (e:=121) (size:=1) ?_;exact cM rfl rfl rfl (aA.refl _) ⟨[],none,0,3,_,rfl,rfl,.inr ⟨.inl ⟨rfl,fun ⟨xs',h1,h2,h3⟩=>hno xs' h1 h2 (by rw[← h3];exact aB7 _)⟩,rfl,hno3 fun z hz1 hz2 hat=>hno (eU z wd) (by rw[vK,hz1]) (aAz hz2 wd) hat⟩⟩
 simp only[Nat.zero_add]at hp' ⊢;refine bN;refine lf rfl rfl rfl (fun w hw ho=>aSx g c5 A5 ys (fN xs).length w ho oo hp') ?_;rintro v S' ⟨ok,p2,wr2,rfl,rfl,hcl⟩;cases ok with
 | false =>
  refine bN;refine dD (e:=121) (size:=1) ?_;have hnr:¬aAj (wd*h) ys:=by
   rintro⟨xs',h1,h2,he⟩;have hat:fK ys 0 (fN xs'):=by rw[← he];exact aB7 _
   have e:=aHx hxat hat (by rw[h1,hxl]) hxf h2;rw[e]at he;have:false=true:=hcl.2 ⟨by rw[← he,sE];omega,fun i h1 h2=>by rw[← he]at h2 ⊢;exact aYd i h1 h2⟩;cases this
  exact cM rfl rfl rfl (aA.refl _) ⟨[],none,0,3,_,rfl,rfl,.inr ⟨.inl ⟨rfl,hnr⟩,rfl,fun z hz1 hz2 he=>hnr ⟨_,by rw[vK,hz1],aAz hz2 wd,he⟩⟩⟩
 | true =>
  have hpk:dT (fN xs)=ys:=aYa hu hxat (hcl.1 rfl).1 (hcl.1 rfl).2;refine bN;rename_i b11;refine bT (X:=List Int) (fun p=>p.length≤xs.length∧dK p∧∀j,j<p.length→pM p wd j=xs.getD j 0) (fun p=>[(0,.int .i64 wd),(11,.slice (some ⟨b11,0,none⟩) xs.length xs.length),(39,.slice Ax xs.length cx),(40,.int .i64 xs.length),(41,.int .i64 p.length)])
   (fun p=>[.row (.slice (some ⟨b11,0,none⟩) xs.length xs.length) 121 1 xs.length (aC .i16 (pZ p xs.length)),.row (.slice Ax xs.length cx) 21 1 xs.length (aC .i32 xs)]) (fun p=>xs.length-p.length) [] ⟨aE,by intro i;simp,aE⟩ ⟨rfl,rfl,rfl,rfl,rfl,trivial⟩ (by simp only[pZ,List.nil_append,List.length_nil,Nat.sub_zero];exact aA.au) ?_
  rintro p ⟨hp1,hp2,hp3⟩;have hql:=aR4 p xs.length hp1;refine bN;refine fQ rfl (fun h5=>?_) (fun h5=>?_)
  ·have hlt:p.length<xs.length:=by have:=of_decide_eq_true h5;omega
   have hgr:=aD7 hp2 wd p.length;have hge:kE (pZ p xs.length) wd p.length=kE p wd p.length:=aG2 oo (Nat.le_refl _);have hmem:xs.getD p.length 0∈xs:=by rw[List.getD_eq_getElem?_getD,List.getElem?_eq_getElem hlt];exact List.getElem_mem _
   have hd:=hxf _ hmem;have hd2:=yQ (xs.getD p.length 0);have hd3 : -65536≤xs.getD p.length 0∧xs.getD p.length 0≤65535:=by unfold oV at hd2;split at hd2<;>omega
   refine bN;refine bQ (v:=.int .i32 (kE p wd p.length)) rfl rfl rfl (fun w hw=>by have hq:bF w (aV []) (some ⟨b11,0,none⟩) xs.length xs.length 1 (aC .i16 (pZ p xs.length)):=⟨Ro.row hw (aD.nil _) (by refine bD3)⟩;have hd:=aL9 (some ⟨b11,0,none⟩) xs.length (pZ p xs.length) wd p.length w (by rw[hql];exact hq) (aV4 hp2 _) oo oo oo;rw[hql,hge]at hd;exact hd) ?_;refine bN;have bad:¬(-32768≤kE p wd p.length+xs.getD p.length 0∧kE p wd p.length+xs.getD p.length 0≤32767)→∀z,z.length=wd*h→dK z→dT (fN (eU z wd))≠ys:=by
    intro hb;refine hno3 fun z hz1 hz2 hat=>hb ?_;have e:=aHx hxat hat (by rw[vK,hz1,hxl]) hxf (aAz hz2 wd);have e1:∀j,j<p.length→pM p wd j=pM z wd j:=fun j hj=>by rw[hp3 j hj,← e,yM z wd j oo]
    have e2:=aKh (by omega:0<wd) p z oo e1 p.length (Nat.le_refl _);rw[List.take_of_length_le (Nat.le_refl p.length)]at e2;have e3:xs.getD p.length 0=pM z wd p.length:=by rw[← e,yM z wd _ oo]
    have e4:=aG3 (by omega:0<wd) (by omega:p.length≤z.length);rw[e2]at e4;rw[e3,pM,e4];have:=hz2 p.length;omega
   refine oW 54 rfl (fun h6=>?_) (fun h6=>?_)
   ·have h6':=of_decide_eq_true h6;refine bN;refine dD (e:=121) (size:=1) ?_;exact cM rfl rfl rfl (aA.refl _) ⟨[],none,0,2,_,rfl,rfl,.inr ⟨.inr ⟨rfl,xs,hxl,hxf,hpk⟩,rfl,bad oo⟩⟩
   have h6':=of_decide_eq_false h6;refine bN;refine fQ rfl (fun h7=>?_) (fun h7=>?_)
   ·have h7':=of_decide_eq_true h7;refine bN;refine dD (e:=121) (size:=1) ?_;exact cM rfl rfl rfl (aA.refl _) ⟨[],none,0,2,_,rfl,rfl,.inr ⟨.inr ⟨rfl,xs,hxl,hxf,hpk⟩,rfl,bad oo⟩⟩
   have h7':=of_decide_eq_false h7;have hbs:=aR5 p xs.length (kE p wd p.length+xs.getD p.length 0) hlt;refine bN;rw[hbs];refine aN (p++[kE p wd p.length+xs.getD p.length 0]) ⟨by simp;omega,aV5 hp2 oo oo,fun j hj=>?_⟩ (by show _-(p++[_]).length<_-p.length;simp;omega) ⟨rfl,rfl,rfl,rfl,by simp[aH],trivial⟩ aA.au;rw[List.length_append,List.length_singleton]at hj;unfold pM;rw[aG2 oo oo];rcases Nat.lt_or_ge j p.length with h8|h8
   ·rw[aB4 h8];exact hp3 j h8
   ·obtain rfl:j=p.length:=oo;have:(p++[kE p wd p.length+xs.getD p.length 0]).getD p.length 0=kE p wd p.length+xs.getD p.length 0:=by simp[List.getD_eq_getElem?_getD]
    rw[this];omega
  ·have hpe:p.length=xs.length:=by have:=of_decide_eq_false h5;omega
   have hdx:eU p wd=xs:=by apply List.ext_getElem (by rw[vK,hpe]);intro j h8 h9;have:=hp3 j oo;rw[← yM p wd j oo,List.getD_eq_getElem?_getD,List.getD_eq_getElem?_getD,List.getElem?_eq_getElem h8,List.getElem?_eq_getElem h9]at this;simpa using this
   have hba:=aR3 p;rw[hpe]at hba;rw[hba,← hpe];refine bN;exact cM rfl rfl rfl (aA.refl _) ⟨p,_,_,0,_,rfl,rfl,.inl ⟨rfl,oo,hp2,by rw[hdx];exact hpk⟩⟩
def bG(n:Nat):Nat:=(n+15)/16
def aAq(W H:Nat)(X Y:Int):Bool:=decide (0≤X)&&decide (0≤Y)&&decide (X<bG W)&&decide (Y<bG H)
def dA(W H:Nat)(X Y:Int):Nat×Nat×Nat×Nat:=if aAq W H X Y=true then (16*X.toNat,16*Y.toNat,min 16 (W-16*X.toNat),min 16 (H-16*Y.toNat))else (0,0,0,0)
theorem aF4(W H:Nat)(X Y:Int):aAq W H X Y=true↔0≤X∧0≤Y∧X<bG W∧Y<bG H:=by simp[aAq,and_assoc]
theorem wO(W H:Nat)(X Y:Int):(dA W H X Y).1+(dA W H X Y).2.2.1≤W∧(dA W H X Y).2.1+(dA W H X Y).2.2.2≤H∧(dA W H X Y).2.2.1≤16∧(dA W H X Y).2.2.2≤16:=by
 unfold dA;split
 ·rename_i h;have:=(aF4 W H X Y).1 h;unfold bG at this;simp only;omega
 ·simp
theorem yK(m:Nat)(w:World)(hm:m<1000000):aF prog 154 [.int .i64 m] [] w (fun v S'=>v=.int .i64 (bG m:Nat)∧S'=[]):=by refine aJ func154 rfl ntmps154 rfl ⟨aE,.nil⟩ (fun n=>?_);simp only[aG];refine bN;refine aK rfl rfl (.nil _) ⟨?_,rfl⟩;unfold bG;congr 1;omega
theorem aAr(W H:Nat)(X Y:Int)(w:World)(hX:aP .i64 X)(hY:aP .i64 Y)(hm:W<1000000∧H<1000000):
  aF prog 103 [.int .i64 W,.int .i64 H,.agg #[.int .i64 X,.int .i64 Y]] [] w (fun v S'=>v=.tuple #[.int .i64 ((dA W H X Y).1:Nat),.int .i64 ((dA W H X Y).2.1:Nat),.int .i64 ((dA W H X Y).2.2.1:Nat),.int .i64 ((dA W H X Y).2.2.2:Nat)]∧S'=[]):=by
 have hiff:=aF4 W H X Y;refine aJ func103 rfl ntmps103 rfl ⟨aE,.nil⟩ (fun n=>?_);simp only[aG];have bad:aAq W H X Y=false→dA W H X Y=(0,0,0,0):=fun h=>by unfold dA;rw[h];rfl
 refine bN;refine oQ rfl od bD ?_;refine nN;refine aD8 15 rfl (fun h=>?_) (fun h=>?_)
 ·have h':=of_decide_eq_true h;have hb:=bad (by rw[← Bool.not_eq_true,hiff];omega);refine nN;refine mE ?_;rw[hb];refine bN;exact aB9 rfl rfl rfl rfl rfl (.nil _) ⟨rfl,rfl⟩
 have h1:=of_decide_eq_false h;refine nN;refine aD8 20 rfl (fun h=>?_) (fun h=>?_)
 ·have h':=of_decide_eq_true h;have hb:=bad (by rw[← Bool.not_eq_true,hiff];omega);refine nN;refine mE ?_;rw[hb];refine bN;exact aB9 rfl rfl rfl rfl rfl (.nil _) ⟨rfl,rfl⟩
 have h2:=of_decide_eq_false h;refine nN;refine uH rfl rfl rfl (fun w _=>yK W w oo) ?_;refine nN;refine aD8 27 rfl (fun h=>?_) (fun h=>?_)
 ·have h':=of_decide_eq_true h;have hb:=bad (by rw[← Bool.not_eq_true,hiff];omega);refine nN;refine mE ?_;rw[hb];refine bN;exact aB9 rfl rfl rfl rfl rfl (.nil _) ⟨rfl,rfl⟩
 have h3:=of_decide_eq_false h;refine nN;refine uH rfl rfl rfl (fun w _=>yK H w oo) ?_;refine nN;refine mE ?_;refine bN;refine fQ rfl (fun h=>?_) (fun h=>?_)
 ·have h':=of_decide_eq_true h;have hb:=bad (by rw[← Bool.not_eq_true,hiff];omega);rw[hb];refine bN;exact aB9 rfl rfl rfl rfl rfl (.nil _) ⟨rfl,rfl⟩
 have h4:=of_decide_eq_false h;have hok:aAq W H X Y=true:=hiff.2 oo;have hbx:dA W H X Y=(16*X.toNat,16*Y.toNat,min 16 (W-16*X.toNat),min 16 (H-16*Y.toNat)):=by unfold dA;rw[if_pos hok]
 rw[hbx];unfold bG at h3 h4;refine bN;refine aB9 rfl rfl rfl rfl rfl (.nil _) ⟨?_,rfl⟩;have e1:X*16=((16*X.toNat:Nat):Int):=oo;have e2:Y*16=((16*Y.toNat:Nat):Int):=oo;have e3:min 16 ((W:Int)-X*16)=((min 16 (W-16*X.toNat):Nat):Int):=oo;have e4:min 16 ((H:Int)-Y*16)=((min 16 (H-16*Y.toNat):Nat):Int):=oo;rw[e3,e4,e1,e2]
def wS(W H:Int)(z:List Int):Int:=if W<2∨H<2∨256<W∨256<H then 2 else if (z.length:Int)=W*H then 0 else 5
theorem aJy(W H:Int)(A:Option Addr)(c:Nat)(z:List Int)(w:World):
  aF prog 153 [.agg #[.int .i64 W,.int .i64 H,.slice A z.length c]] [] w (fun v S'=>v=.int .i64 (wS W H z)∧S'=[]):=by
 refine aJ func153 rfl ntmps153 rfl ⟨aE,.nil⟩ (fun n=>?_);simp only[aG];unfold wS;refine bN;refine oW 6 rfl (fun h=>?_) (fun h=>?_)
 ·have h':=of_decide_eq_true h;rw[if_pos oo];refine bN;exact aK rfl rfl (.nil _) ⟨rfl,rfl⟩
 have h1:=of_decide_eq_false h;refine bN;refine oW 11 rfl (fun h=>?_) (fun h=>?_)
 ·have h':=of_decide_eq_true h;rw[if_pos oo];refine bN;exact aK rfl rfl (.nil _) ⟨rfl,rfl⟩
 have h2:=of_decide_eq_false h;refine bN;refine oW 16 rfl (fun h=>?_) (fun h=>?_)
 ·have h':=of_decide_eq_true h;rw[if_pos oo];refine bN;exact aK rfl rfl (.nil _) ⟨rfl,rfl⟩
 have h3:=of_decide_eq_false h;refine bN;refine fQ rfl (fun h=>?_) (fun h=>?_)
 ·have h':=of_decide_eq_true h;rw[if_pos oo];refine bN;exact aK rfl rfl (.nil _) ⟨rfl,rfl⟩
 have h4:=of_decide_eq_false h;have hab:0≤W*H∧W*H≤65536:=⟨Int.mul_nonneg oo oo,by have:=Int.mul_le_mul (by omega:W≤256) (by omega:H≤256) oo (by omega:(0:Int)≤256);omega⟩;rw[if_neg oo];refine bN;refine fQ rfl (fun h=>?_) (fun h=>?_)
 ·rw[if_neg (by simpa using h)];refine bN;exact aK rfl rfl (.nil _) ⟨rfl,rfl⟩
 ·rw[if_pos (by simpa using h)];refine bN;exact aK rfl rfl (.nil _) ⟨rfl,rfl⟩
instance:gY (Tryz.t208.desc):=⟨by kernel_rfl⟩
instance:gY (Tryz.t27.desc):=⟨by kernel_rfl⟩
def yZ(z:List Int)(W x y bw r:Nat):List Int:=(z.drop ((y+r)*W+x)).take bw
def mA(z:List Int)(W x y bw:Nat):Nat→List Int
 | 0=>[]
 | r+1=>mA z W x y bw r++yZ z W x y bw r
def rW(W H:Nat)(z:List Int)(X Y:Int):List Int:=mA z W (dA W H X Y).1 (dA W H X Y).2.1 (dA W H X Y).2.2.1 (dA W H X Y).2.2.2
def qX(ys:List Int)(W x y bw:Nat)(z:List Int):Nat→List Int
 | 0=>z
 | r+1=>lay (qX ys W x y bw z r) ((y+r)*W+x) ((ys.drop (r*bw)).take bw)
theorem aAn{W H x y bw bh r:Nat}(hx:x+bw≤W)(hy:y+bh≤H)(hr:r<bh):(y+r)*W+x+bw≤W*H:=by have h1:(y+r+1)*W≤H*W:=Nat.mul_le_mul_right _ oo;rw[Nat.add_mul,Nat.one_mul]at h1;rw[Nat.mul_comm W H];omega
theorem aHt{z:List Int}{W H x y bw bh r:Nat}(hz:z.length=W*H)(hx:x+bw≤W)(hy:y+bh≤H)(hr:r<bh):(yZ z W x y bw r).length=bw:=by have:=aAn hx hy hr;unfold yZ;rw[List.length_take,List.length_drop];omega
theorem zV{z:List Int}{W H x y bw bh:Nat}(hz:z.length=W*H)(hx:x+bw≤W)(hy:y+bh≤H):∀r,r≤bh→(mA z W x y bw r).length=r*bw
 | 0,_=>by simp[mA]
 | r+1,h=>by rw[mA,List.length_append,zV hz hx hy r oo,aHt hz hx hy (by omega:r<bh),Nat.add_mul,Nat.one_mul]
theorem aBb{ys z:List Int}{W H x y bw bh:Nat}(hz:z.length=W*H)(hx:x+bw≤W)(hy:y+bh≤H)(hys:ys.length=bw*bh):∀r,r≤bh→(qX ys W x y bw z r).length=W*H
 | 0,_=>hz
 | r+1,h=>by
  have h1:=aBb hz hx hy hys r oo;have h2:=aAn hx hy (by omega:r<bh);have h3:((ys.drop (r*bw)).take bw).length=bw:=by have h4:(r+1)*bw≤bh*bw:=Nat.mul_le_mul_right _ oo;rw[Nat.add_mul,Nat.one_mul,Nat.mul_comm bh]at h4;rw[List.length_take,List.length_drop];omega
  rw[qX,aLy _ _ _ (by rw[h3,h1];omega),h1]
theorem aTa(W H:Nat)(A:Option Addr)(c:Nat)(z:List Int)(X Y:Int)(w:World)(hr:bF w (aV []) A z.length c 1 (aC .i16 z))(hX:aP .i64 X)(hY:aP .i64 Y)(hm:W≤256∧H≤256)(hz:z.length=W*H):
  aF prog 105 [.agg #[.int .i64 W,.int .i64 H,.slice A z.length c],.agg #[.int .i64 X,.int .i64 Y]] [] w (fun v S'=>∃A' c',v=.slice A' (rW W H z X Y).length c'∧S'=[.row (.slice A' (rW W H z X Y).length c') 121 1 (rW W H z X Y).length (aC .i16 (rW W H z X Y))]):=by
 have hbx:=wO W H X Y;have hWH:W*H≤65536:=by have:=Nat.mul_le_mul hm.1 hm.2;omega
 refine aJ func105 rfl ntmps105 rfl ⟨aE,.nil⟩ (fun n=>?_);simp only[aG];unfold rW;refine dD (e:=121) (size:=1) ?_;refine bN;rename_i b2 b3;refine bQ rfl rfl rfl (fun w _=>aAr W H X Y w hX hY oo) ?_;generalize dA W H X Y=bx at *;obtain⟨x,y,bw,bh⟩:=bx;simp only at hbx ⊢;obtain⟨h1,h2,h3,h4⟩:=hbx;refine bN;refine bT (X:=Nat×Option Addr×Nat) (fun q=>q.1≤bh) (fun q=>[(2,.pointer (some ⟨b2,0,none⟩)),(5,.int .i64 x),(6,.int .i64 y),(7,.int .i64 bw),(9,.slice q.2.1 (mA z W x y bw q.1).length q.2.2),(23,.int .i64 bh),(24,.int .i64 q.1)])
  (fun q=>[.row (.slice q.2.1 (mA z W x y bw q.1).length q.2.2) 121 1 (mA z W x y bw q.1).length (aC .i16 (mA z W x y bw q.1)),.blk b2 28 [.int .i64 W,.int .i64 H,.slice A z.length c]]) (fun q=>bh-q.1) (0,none,0) aE ⟨rfl,rfl,rfl,rfl,rfl,rfl,rfl,trivial⟩ (.cons (.there _ (.there _ (.here _ _))) (.cons (.there _ (.here _ _)) (.nil _))) ?_
 rintro⟨r,A1,c1⟩ hr1;simp only at hr1 ⊢;have hcl:=zV hz h1 h2 r hr1;refine bN;refine fQ rfl (fun h=>?_) (fun h=>?_)
 ·have hlt:r<bh:=by have:=of_decide_eq_true h;omega
  have hle:=aAn h1 h2 hlt;have hcb:r*bw≤256:=by have:=Nat.mul_le_mul (by omega:r≤16) (by omega:bw≤16);omega
  have hcast:((y:Int)+r)*W+x=(((y+r)*W+x:Nat):Int):=by push_cast;rfl
  have hmul:((y:Int)+r)*W=(((y+r)*W:Nat):Int):=by push_cast;rfl
  have hmul2:0≤((y:Int)+r)*W∧((y:Int)+r)*W≤65536:=by rw[hmul];omega
  have hct:mA z W x y bw (r+1)=mA z W x y bw r++(z.drop ((y+r)*W+x)).take ((y+r)*W+x+bw-((y+r)*W+x)):=by rw[Nat.add_sub_cancel_left];rfl
  have hcap:z.length≤c:=by obtain⟨_,_,e1,e2,_⟩:=hr.h;injection e1 with _ e3 e4;omega
  refine bN;refine eX 38 _ rfl (v':=.int .i64 (((y+r)*W+x:Nat):Int)) (by rw[hcast]) ?_;refine eX 41 _ rfl (v':=.int .i64 (((y+r)*W+x+bw:Nat):Int)) (by rw[hcast];push_cast;rfl) ?_;refine aBa ((y+r)*W+x) ((y+r)*W+x+bw) hr oo (fun hsub=>?_);refine bN;rename_i A2 c2;exact aN (r+1,A2,c2) (by show r+1≤_;omega) (by show _-(r+1)<_-r;omega) ⟨rfl,rfl,rfl,rfl,by rw[hct];rfl,rfl,by simp[aH],trivial⟩ (by rw[hct];exact aA.au)
 ·obtain rfl:r=bh:=by have:=of_decide_eq_false h;omega
  refine bN;exact aK rfl rfl aA.au ⟨_,_,rfl,rfl⟩
theorem aVy(W H:Nat)(A B:Option Addr)(c d:Nat)(z ys:List Int)(X Y:Int)(w:World)(hown:aZ [.row (.slice A z.length c) 121 1 z.length (aC .i16 z)] w)(hr:bF w (aV [.row (.slice A z.length c) 121 1 z.length (aC .i16 z)]) B ys.length d 1 (aC .i16 ys))(hX:aP .i64 X)(hY:aP .i64 Y)(hm:2≤W∧W≤256∧2≤H∧H≤256)(hz:z.length=W*H)(hc:z.length≤c)(hyb:ys.length<1000000):
  aF prog 161 [.agg #[.int .i64 W,.int .i64 H,.slice A z.length c],.agg #[.int .i64 X,.int .i64 Y],.slice B ys.length d] [.row (.slice A z.length c) 121 1 z.length (aC .i16 z)] w
   (fun v S'=>(v=.bool true∧ys.length=(dA W H X Y).2.2.1*(dA W H X Y).2.2.2∧0<(dA W H X Y).2.2.1∧S'=[.row (.slice A z.length c) 121 1 z.length (aC .i16 (qX ys W (dA W H X Y).1 (dA W H X Y).2.1 (dA W H X Y).2.2.1 z (dA W H X Y).2.2.2))]) ∨
    (v=.bool false∧¬(ys.length=(dA W H X Y).2.2.1*(dA W H X Y).2.2.2∧0<(dA W H X Y).2.2.1)∧S'=[.row (.slice A z.length c) 121 1 z.length (aC .i16 z)])):=by
 have hbx:=wO W H X Y;have hWH:W*H≤65536:=by have:=Nat.mul_le_mul hm.2.1 hm.2.2.2;omega
 have hchk:wS W H z=0:=by unfold wS;rw[if_neg oo,if_pos (by rw[hz];push_cast;rfl)]
 refine aJ func161 rfl ntmps161 rfl hown (fun n=>?_);simp only[aG];refine bN;rename_i b3 b4;refine bQ rfl rfl rfl (fun w _=>aAr W H X Y w hX hY oo) ?_;generalize dA W H X Y=bx at *;obtain⟨x,y,bw,bh⟩:=bx;simp only at hbx ⊢;obtain⟨h1,h2,h3,h4⟩:=hbx;have hbb:bw*bh≤256:=by have:=Nat.mul_le_mul h3 h4;omega
 have hbc:(bw:Int)*bh=((bw*bh:Nat):Int):=by push_cast;rfl
 have hbi:0≤(bw:Int)*bh∧(bw:Int)*bh≤256:=by rw[hbc];omega
 refine bN;refine bQ (v:=.int .i64 0) rfl rfl rfl (fun w _=>(by have:=aJy W H A c z w;rw[hchk]at this;exact this)) ?_;refine bN;refine oW 34 rfl (fun h=>?_) (fun h=>?_)
 ·have hne:¬(ys.length:Int)=(bw:Int)*bh:=by simpa using h
  refine bN;exact aK rfl rfl (.cons (.there _ (.there _ (.here _ _))) (.nil _)) (.inr ⟨rfl,fun e=>hne (by rw[hbc,e.1]),rfl⟩)
 have hyl : ys.length = bw * bh := by have : (ys.length : Int) = (bw : Int) * bh := by simpa using h
                                      omega
 refine bN;refine fQ rfl (fun h=>?_) (fun h=>?_)
 ·have h0 : bw = 0 := by have : (bw : Int) = 0 := by simpa using h
                         omega
  refine bN;exact aK rfl rfl (.cons (.there _ (.there _ (.here _ _))) (.nil _)) (.inr ⟨rfl,fun e=>by omega,rfl⟩)
 have h0 : 0 < bw := by have : ¬ (bw : Int) = 0 := by simpa using h
                        omega
 refine bN;refine bT (X:=Nat) (fun r=>r≤bh) (fun r=>[(2,.slice B ys.length d),(3,.pointer (some ⟨b3,0,none⟩)),(7,.int .i64 x),(8,.int .i64 y),(9,.int .i64 bw),(38,.int .i64 bh),(39,.int .i64 r)])
  (fun r=>[.row (.slice A z.length c) 121 1 z.length (aC .i16 (qX ys W x y bw z r)),.blk b3 28 [.int .i64 W,.int .i64 H,.slice A z.length c]]) (fun r=>bh-r) 0 aE ⟨rfl,rfl,rfl,rfl,rfl,rfl,rfl,trivial⟩ (.cons (.there _ (.there _ (.here _ _))) (.cons (.there _ (.here _ _)) (.nil _))) ?_
 intro r hr1;have hll:=aBb hz h1 h2 hyl r hr1;refine bN;refine fQ rfl (fun h=>?_) (fun h=>?_)
 ·have hlt:r<bh:=by have:=of_decide_eq_true h;omega
  have hle:=aAn h1 h2 hlt;have hcast:((y:Int)+r)*W+x=(((y+r)*W+x:Nat):Int):=by push_cast;rfl
  have hmul:((y:Int)+r)*W=(((y+r)*W:Nat):Int):=by push_cast;rfl
  have hmul2:0≤((y:Int)+r)*W∧((y:Int)+r)*W≤65536:=by rw[hmul];omega
  have hr2:(r+1)*bw≤bw*bh:=by rw[Nat.mul_comm bw bh];exact Nat.mul_le_mul_right _ oo
  have hr3:r*bw+bw=(r+1)*bw:=by rw[Nat.add_mul,Nat.one_mul]
  have hc1:(r:Int)*bw=((r*bw:Nat):Int):=by push_cast;rfl
  have hc2:((r:Int)+1)*bw=(((r+1)*bw:Nat):Int):=by push_cast;rfl
  have hm1:0≤(r:Int)*bw∧(r:Int)*bw≤256:=by rw[hc1];omega
  have hm2:0≤((r:Int)+1)*bw∧((r:Int)+1)*bw≤256:=by rw[hc2];omega
  refine bN;have hdd:ys.length≤d:=by obtain⟨_,_,e1,e2,_⟩:=hr.h;injection e1 with _ e3 e4;omega
  refine aBa (r*bw) ((r+1)*bw) hr oo (fun hsub=>?_);refine aJl 20 od bD ?_;refine nN;refine aG4 51 _ rfl (v':=.int .i64 (((y+r)*W+x:Nat):Int)) (by rw[hcast]) ?_;refine nN;refine aG4 56 _ rfl (v':=.int .i64 ((r*bw:Nat):Int)) (by rw[hc1]) ?_;refine aG4 60 _ rfl (v':=.int .i64 (((r+1)*bw:Nat):Int)) (by rw[hc2]) ?_;refine nN;refine mE ?_;have hls:qX ys W x y bw z (r+1)=lay (qX ys W x y bw z r) ((y+r)*W+x) ((ys.drop (r*bw)).take ((r+1)*bw-r*bw)):=by rw[show (r+1)*bw-r*bw=bw from by omega];rfl
  refine lcp (A:=A) (c:=c) (m:=z.length) (zs:=qX ys W x y bw z r) (l:=(y+r)*W+x) rfl rfl oo rfl ?_;refine bN;exact aN (r+1) (by show r+1≤_;omega) (by show _-(r+1)<_-r;omega) ⟨rfl,rfl,rfl,rfl,rfl,rfl,by simp[aH],trivial⟩ (by rw[hls];exact aA.au)
 ·obtain rfl:r=bh:=by have:=of_decide_eq_false h;omega
  refine bN;exact aK rfl rfl (.cons (.here _ _) (.nil _)) (.inl ⟨rfl,hyl,h0,rfl⟩)
