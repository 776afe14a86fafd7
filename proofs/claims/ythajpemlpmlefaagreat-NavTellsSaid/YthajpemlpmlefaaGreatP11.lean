import Derived.Test.YthajpemlpmlefaaGreatP08
import Derived.Test.YthajpemlpmlefaaGreatP10
set_option maxHeartbeats 512000000
set_option maxRecDepth 4000
set_option linter.unusedVariables false
set_option linter.unusedSimpArgs false
namespace Go.Proofs.YthajpemlpmlefaaGreat
open Go.RowKit
def codesB(xs:List Int)(k:Nat):List Bool:=xs.flatMap fun x=>codeB (foldN x) k
def rowB(xs:List Int):List Bool:=numBits (bestK xs) 5++codesB xs (bestK xs)
def Fits(xs:List Int):Prop:=∀x∈xs,foldN x<131072
theorem codesB_len(xs:List Int)(k:Nat):(codesB xs k).length=bitsOf xs k:=by
 unfold codesB bitsOf
 rw[List.length_flatMap]
 congr 1
 apply List.map_congr_left
 intro x _
 exact codeB_len _ _
theorem codesB_snoc(xs:List Int)(x:Int)(k:Nat):codesB (xs++[x]) k=codesB xs k++codeB (foldN x) k:=by simp[codesB]
theorem bestK_le(xs:List Int):bestK xs≤16:=bestTo_le xs 16
theorem foldN_inj{x y:Int}(h:foldN x=foldN y):x=y:=(foldI_inj x y).1 (by rw[← foldN_cast,← foldN_cast,h])
theorem codes_same{ys:List Int}{k:Nat}: ∀(zs xs:List Int) (q:Nat),isAt ys q (codesB zs k)→isAt ys q (codesB xs k)→zs.length≤xs.length→Fits zs→Fits xs→xs.take zs.length=zs
 | [],xs,q,_,_,_,_,_=>by simp
 | z::zs,[],q,_,_,h,_,_=>by simp at h
 | z::zs,x::xs,q,h1,h2,hl,f1,f2=>by
  have e1:codesB (z::zs) k=codeB (foldN z) k++codesB zs k:=rfl
  have e2:codesB (x::xs) k=codeB (foldN x) k++codesB xs k:=rfl
  rw[e1,isAt_append]at h1
  rw[e2,isAt_append]at h2
  obtain rfl:=foldN_inj (code_same (f1 z (by simp)) (f2 x (by simp)) h1.1 h2.1)
  rw[List.length_cons,List.take_succ_cons,codes_same zs xs _ h1.2 h2.2 (by simpa using hl) (fun y hy=>f1 y (by simp[hy])) (fun y hy=>f2 y (by simp[hy]))]
theorem five_same{ys:List Int}{p x y:Nat}(hx:x<32)(hy:y<32)(h1:isAt ys p (numBits x 5))(h2:isAt ys p (numBits y 5)):x=y:=by
 have e1:=(isAt_num.1 h1).2
 have e2:=(isAt_num.1 h2).2
 rw[e1]at e2
 omega
attribute [local irreducible] OJ J HdJ Code.wpIn wpListIn Oper.wpIn bodyPost CallsIn Does
theorem row_any(g c:Nat)(A:Option Addr)(bs:List Bool)(Al:Option Addr)(cl:Nat)(xs:List Int)(w:World)(hown:Own (Wr g A c bs) w)(hr:RoA w (blocks (Wr g A c bs)) Al xs.length cl 1 (ints .i32 xs))(hx:In32 xs)(hm:xs.length<1000000)(hb:bs.length<100000000):
  Does Tryz.prog 157 [.pointer (some ⟨g,0,none⟩),.slice Al xs.length cl] (Wr g A c bs) w (fun v S'=>v=.tuple #[]∧∃A' c',S'=Wr g A' c' (bs++rowB xs)):=by
 have hk:=bestK_le xs
 refine does_ofM Tryz.func157 rfl Tryz.ntmps157 rfl hown (fun n=>?_)
 simp only[slots]
 refine z_go2
 rename_i b2
 refine lfv rfl rfl rfl (fun w1 hw=>best_any Al cl xs w1 ⟨hr.h.go hw (Split.nil _)⟩ hx hm) ?_
 refine z_go2
 rename_i b4
 refine lfn rfl rfl (Split.cons (.there _ (.there _ (.here _ _))) (Split.cons (.there _ (.there _ (.here _ _))) (Split.nil _))) rfl (fun w hw ho=>num_any g c A bs (bestK xs) 5 w ho (by omega) (by omega) (by omega)) ?_
 rintro v S' ⟨rfl,A1,c1,rfl⟩
 refine z_go2
 refine lfn rfl rfl (Split.nil _) rfl (fun w hw ho=>folded_any _ _ _ w) ?_
 rintro v S' ⟨g3,rfl,rfl⟩
 refine z_go2
 have hbl:=bitsOf_le xs (bestK xs) hk
 refine c_range (S0:=.blk g3 260 [.slice Al xs.length cl]::.blk b4 3 [.int .i64 (bestK xs)]::.blk b2 267 [.pointer (some ⟨g,0,none⟩)]::Wr g A1 c1 (bs++numBits (bestK xs) 5))
  (Rp:=fun D l pend S1=>pend=none∧∃A2 c2,S1=.blk g3 260 [.slice Al xs.length cl]::.blk b4 3 [.int .i64 (bestK xs)]::.blk b2 267 [.pointer (some ⟨g,0,none⟩)]::Wr g A2 c2 (bs++rowB xs)) rfl (Split.cons (.here _ _) (Split.cons (.there _ (.there _ (.here _ _))) (Split.cons (.there _ (.there _ (.here _ _))) (Split.cons (.here _ _) (Split.cons (.here _ _) (Split.nil _)))))) (fun D l w1 LE hLE hw ho=>?_) ?_
 ·have hro:=hr.h.go hw (Split.cons (.there _ (.there _ (.here _ _))) (Split.cons (.here _ _) (Split.cons (.there _ (.there _ (.there _ (.here _ _)))) (Split.cons (.there _ (.there _ (.there _ (.here _ _)))) (Split.cons (.there _ (.here _ _)) (Split.cons (.there _ (.here _ _)) (Split.nil _)))))))
  refine Does.conv (folded1_any l g3 cl Al xs w1 (LE::.blk b4 3 [.int .i64 (bestK xs)]::.blk b2 267 [.pointer (some ⟨g,0,none⟩)]::Wr g A1 c1 (bs++numBits (bestK xs) 5))
   (fun i S=>∃A2 c2,S=LE::.blk b4 3 [.int .i64 (bestK xs)]::.blk b2 267 [.pointer (some ⟨g,0,none⟩)]::Wr g A2 c2 (bs++numBits (bestK xs) 5++codesB (xs.take i) (bestK xs)))
   (ho.perm (List.Perm.swap _ _ _)) ⟨hro⟩ hx (by omega) ⟨A1,c1,by simp[codesB]⟩ ?_) (List.Perm.swap _ _ _) ?_
  ·rintro i S1 hi ⟨A2,c2,rfl⟩ w2 ho2
   have hxi:=hx i hi
   have hfl:=foldN_le _ hxi.1 hxi.2
   have hcl:=codesB_len (xs.take i) (bestK xs)
   have hb2:=bitsOf_le (xs.take i) (bestK xs) hk
   rw[List.length_take]at hb2
   have hsn:codesB (xs.take (i+1)) (bestK xs)=codesB (xs.take i) (bestK xs)++codeB (foldN (xs.getD i 0)) (bestK xs):=by
    rw[List.take_succ_eq_append_getElem hi,codesB_snoc];simp[List.getD_eq_getElem?_getD,hi]
   subst hLE
   refine yields_of (N:=23) ho2 rfl (by simp) (fun n=>?_)
   simp only[over]
   refine z_go2
   refine c_begin ?_
   refine z_go2
   refine lfn rfl rfl (Split.cons (.there _ (.there _ (.there _ (.here _ _)))) (Split.cons (.there _ (.there _ (.there _ (.here _ _)))) (Split.nil _))) rfl (fun w hw ho=>put_any g c2 A2 _ (foldN (xs.getD i 0)) (bestK xs) w ho (by simp[numBits_len,hcl];omega) hfl hk) ?_
   rintro v S' ⟨rfl,A3,c3,rfl⟩
   refine z_go2
   refine j_perm (H':=_::_::_::Wr g A3 c3 _) (Sub.cons (.there _ (.there _ (.here _ _))) (Sub.cons (.there _ (.there _ (.here _ _))) (Sub.cons (.there _ (.there _ (.here _ _))) (Sub.cons (.here _ _) (Sub.cons (.here _ _) (Sub.nil _)))))) ?_
   refine c_rnormal (Sub.refl _) ⟨rfl,A3,c3,?_⟩
   rw[hsn,List.append_assoc _ (codesB _ _)]
  ·rintro v S' ⟨-,S1,rfl,A2,c2,rfl⟩
   rw[List.take_of_length_le (Nat.le_refl _)]
   exact⟨_,List.Perm.swap _ _ _,.ready,none,_,by rw[hLE],by simp,rfl,A2,c2,by simp[rowB]⟩
 ·rintro D l pend S1 ⟨rfl,A2,c2,rfl⟩
  refine⟨fun _=>?_,fun c h=>by cases h⟩
  refine z_go2
  exact j_outM0 (Ds:=[D]) (S':=Wr g A2 c2 (bs++rowB xs)) rfl (Sub.skip (Sub.skip (Sub.skip (Sub.refl _) _) _) _) ⟨rfl,A2,c2,rfl⟩ .normal (.inl rfl)
def IsRowR(g c:Nat)(A:Option Addr)(ys:List Int)(p n:Nat)(v:Value)(S':List HE):Prop :=
 ∃(xs:List Int) (Ax:Option Addr) (cx p':Nat) (ok wr:Bool),v=.tuple #[.slice Ax xs.length cx,.bool ok]∧S'=.row (.slice Ax xs.length cx) 21 1 xs.length (ints .i32 xs)::Rd g A c ys p' wr∧p'≤8*ys.length ∧
  ((ok=true∧wr=false∧xs.length=n∧Fits xs∧In32 xs∧p'=p+(rowB xs).length∧isAt ys p (rowB xs))∨(ok=false∧∀zs,zs.length=n→Fits zs→¬isAt ys p (rowB zs)))
theorem isrow_any(g c:Nat)(A:Option Addr)(ys:List Int)(p m:Nat)(w:World)(hown:Own (Rd g A c ys p false) w)(hm:ys.length<100000000)(hp:p≤8*ys.length)(hn:m<100000):
  Does Tryz.prog 154 [.pointer (some ⟨g,0,none⟩),.int .i64 m] (Rd g A c ys p false) w (IsRowR g c A ys p m):=by
 refine does_of Tryz.func154 rfl Tryz.ntmps154 rfl hown (fun n=>?_)
 simp only[slots]
 refine j_nil (e:=21) (size:=1) ?_
 refine z_go2
 refine lfn rfl rfl (Split.cons (.there _ (.here _ _)) (Split.cons (.there _ (.here _ _)) (Split.nil _))) rfl (fun w hw ho=>rnum_any g c A ys p 5 false w ho hm hp (by omega)) ?_
 rintro v S' ⟨k,p1,wr1,rfl,hk,rfl,hp1,hk2⟩
 have hk3:k<32:=hk
 have hsplit:∀zs,isAt ys p (rowB zs)→isAt ys p (numBits (bestK zs) 5)∧isAt ys (p+5) (codesB zs (bestK zs)):=fun zs h=>by
  have:=isAt_append.1 h
  rwa [numBits_len]at this
 refine z_go2
 rcases hk2 with⟨rfl,-,rfl,hat⟩ | ⟨rfl,hno⟩
 ·refine lfk (v:=.bool true) rfl rfl (Split.cons (.here _ _) (Split.cons (.here _ _) (Split.nil _))) (Sub.refl _) rfl (fun w hw ho=>right_any g c A ys _ false w ho) ?_
  refine z_go2
  refine j_case 22 rfl (fun h1=>?_) (fun h1=>?_)
  ·have h16:16<k:=by have:=of_decide_eq_true h1;omega
   refine z_go2
   refine j_out2 rfl rfl rfl (S':=.row (.slice none 0 0) 21 1 0 (ints .i32 [])::Rd g A c ys (p+5) false) (.cons (.there _ (.there _ (.here _ _))) (Sub.refl _)) ⟨[],none,0,p+5,false,false,rfl,rfl,hp1,.inr ⟨rfl,fun zs _ _ h=>?_⟩⟩
   have:=five_same (by have:=bestK_le zs;omega) hk3 (hsplit zs h).1 hat
   have:=bestK_le zs
   omega
  ·have h16:k≤16:=by have:=of_decide_eq_false h1;omega
   refine z_go2
   refine c_loop (X:=List Int×Option Addr×Nat) (fun x=>x.1.length≤m∧Fits x.1∧In32 x.1∧isAt ys (p+5) (codesB x.1 k)) (fun x=>[(0,.pointer (some ⟨g,0,none⟩)),(6,.int .i64 k),(7,.slice x.2.1 x.1.length x.2.2),(26,.int .i64 m),(27,.int .i64 x.1.length)])
    (fun x=>.row (.slice x.2.1 x.1.length x.2.2) 21 1 x.1.length (ints .i32 x.1)::Rd g A c ys (p+5+bitsOf x.1 k) false) (fun x=>m-x.1.length) ([],none,0) ⟨by simp,by simp[Fits],by simp[In32],isAt_nil.2 hp1⟩ ⟨rfl,rfl,rfl,rfl,rfl,trivial⟩ (.cons (.there _ (.there _ (.here _ _))) (Sub.refl _)) ?_
   rintro⟨zs,Az,cz⟩ ⟨hz1,hz2,hz3,hz4⟩
   simp only at hz1 hz2 hz3 hz4 ⊢
   have hq:p+5+bitsOf zs k≤8*ys.length:=by have:=hz4.1;rwa [codesB_len]at this
   refine z_go2
   refine c_cond rfl (fun h=>?_) (fun h=>?_)
   ·have hlt:zs.length<m:=by have:=of_decide_eq_true h;omega
    refine z_go2
    refine lfn rfl rfl (Split.cons (.there _ (.here _ _)) (Split.cons (.there _ (.here _ _)) (Split.nil _))) rfl (fun w hw ho=>get_any g c A ys _ k w ho hm hq h16) ?_
    rintro v S' ⟨x,p2,ok,wr,rfl,rfl,hp2,hx⟩
    refine z_go2
    rcases hx with⟨rfl,rfl,hx1,rfl,hxat⟩ | ⟨rfl,hxno⟩
    ·have hfu:foldN (unfoldI x)=x:=by have h1:=foldN_cast (unfoldI x);rw[fold_unfold _ (by omega)]at h1;omega
     have hur:=unfoldI_range x (by omega) (by omega)
     refine z_go2
     refine lfv (v:=.int .i32 (unfoldI x)) rfl rfl rfl (fun w hw=>unfold_any x w (by omega) (by omega)) ?_
     refine z_go2
     have hsn:=codesB_snoc zs (unfoldI x) k
     have hbs:bitsOf (zs++[unfoldI x]) k=bitsOf zs k+sizeN x k:=by rw[← codesB_len,← codesB_len,hsn,List.length_append,codeB_len,hfu]
     refine c_round (zs++[unfoldI x],_,_) ⟨by simp;omega,fun y hy=>?_,fun i hi=>?_,?_⟩ (by show m-(zs++[unfoldI x]).length<m-zs.length;simp;omega) ⟨rfl,rfl,rfl,rfl,by simp[look],trivial⟩ ?_
     ·rcases List.mem_append.1 hy with hy|hy
      ·exact hz2 y hy
      ·rw[List.mem_singleton.1 hy,hfu];exact hx1
     ·rw[List.length_append,List.length_singleton]at hi
      rcases Nat.lt_or_ge i zs.length with h5|h5
      ·have:=hz3 i h5
       simpa [List.getD_eq_getElem?_getD,List.getElem?_append_left h5] using this
      ·obtain rfl:i=zs.length:=by omega
       simpa [List.getD_eq_getElem?_getD] using hur
     ·rw[hsn,isAt_append,codesB_len,hfu];exact⟨hz4,hxat⟩
     ·simp only[hbs,← Nat.add_assoc]
      exact Sub.au
    ·refine z_go2
     refine j_nil (e:=21) (size:=1) ?_
     refine j_out2 rfl rfl rfl (S':=.row (.slice none 0 0) 21 1 0 (ints .i32 [])::Rd g A c ys p2 wr) ?_ ⟨[],none,0,p2,false,wr,rfl,rfl,hp2,.inr ⟨rfl,fun us hu1 hu2 h=>?_⟩⟩
     ·exact .cons (.here _ _) (.cons (.here _ _) (.cons (.here _ _) (.nil _)))
     ·have hs:=hsplit us h
      have e:=five_same (by have:=bestK_le us;omega) hk3 hs.1 hat
      rw[e]at hs
      have hpre:=codes_same zs us _ hz4 hs.2 (by omega) hz2 hu2
      have e2:us=us.take zs.length++us.getD zs.length 0::us.drop (zs.length+1):=by
       rw[List.getD_eq_getElem?_getD,List.getElem?_eq_getElem (by omega),Option.getD_some,← List.drop_eq_getElem_cons,List.take_append_drop]
      have hs2:=hs.2
      rw[e2,hpre]at hs2
      have e3:codesB (zs++us.getD zs.length 0::us.drop (zs.length+1)) k=codesB zs k++(codeB (foldN (us.getD zs.length 0)) k++codesB (us.drop (zs.length+1)) k):=by simp[codesB]
      rw[e3,isAt_append,isAt_append,codesB_len]at hs2
      refine hxno _ (hu2 _ ?_) hs2.2.1
      rw[List.getD_eq_getElem?_getD,List.getElem?_eq_getElem (by omega),Option.getD_some]
      exact List.getElem_mem _
   ·have hge:zs.length=m:=by have:=of_decide_eq_false h;omega
    refine z_go2
    refine lfv rfl rfl rfl (fun w1 hw=>best_any Az cz zs w1 ⟨Ro.row hw (Split.nil _) (.here _ _)⟩ hz3 (by omega)) ?_
    refine z_go2
    refine j_out2 rfl rfl rfl (Sub.refl _) ⟨zs,Az,cz,_,_,false,rfl,rfl,hq,?_⟩
    have hrl:(numBits (bestK zs) 5++codesB zs (bestK zs)).length=5+bitsOf zs (bestK zs):=by rw[List.length_append,numBits_len,codesB_len]
    by_cases hbk:bestK zs=k
    ·refine .inl ⟨by simp[hbk],rfl,hge,hz2,hz3,?_,?_⟩
     ·unfold rowB;rw[hrl,hbk,Nat.add_assoc]
     ·unfold rowB;rw[isAt_append,numBits_len,hbk];exact⟨hat,hz4⟩
    ·refine .inr ⟨by simp;omega,fun us hu1 hu2 h=>hbk ?_⟩
     have hs:=hsplit us h
     have e:=five_same (by have:=bestK_le us;omega) hk3 hs.1 hat
     rw[e]at hs
     have hpre:=codes_same zs us _ hz4 hs.2 (by omega) hz2 hu2
     rw[List.take_of_length_le (by omega)]at hpre
     rw[← hpre];exact e
 ·refine lfk (v:=.bool false) rfl rfl (Split.cons (.here _ _) (Split.cons (.here _ _) (Split.nil _))) (Sub.refl _) rfl (fun w hw ho=>right_any g c A ys _ true w ho) ?_
  refine z_go2
  refine j_out2 rfl rfl rfl (S':=.row (.slice none 0 0) 21 1 0 (ints .i32 [])::Rd g A c ys p1 true) (.cons (.there _ (.there _ (.here _ _))) (Sub.refl _)) ⟨[],none,0,p1,false,true,rfl,rfl,hp1,.inr ⟨rfl,fun zs _ _ h=>hno rfl _ (hsplit zs h).1⟩⟩
def p2(k:Nat):Nat:=2^k
theorem row_back{xs zs:List Int}{p:Nat}{ys:List Int}(h1:isAt ys p (rowB xs))(h2:isAt ys p (rowB zs))(hl:zs.length=xs.length)(f1:Fits xs)(f2:Fits zs):zs=xs:=by
 unfold rowB at h1 h2
 rw[isAt_append,numBits_len]at h1 h2
 have e:=five_same (by have:=bestK_le zs;omega) (by have:=bestK_le xs;omega) h2.1 h1.1
 rw[e]at h2
 have:=codes_same xs zs _ h1.2 h2.2 (by omega) f1 f2
 rw[← hl,List.take_of_length_le (by omega)]at this
 exact this
theorem rowB_len(xs:List Int):(rowB xs).length=5+bitsOf xs (bestK xs):=by unfold rowB;rw[List.length_append,numBits_len,codesB_len]
def guessF(z:List Int)(w i:Nat):Int:=if 0<i%w then z.getD (i-1) 0 else if 0<i then z.getD (i-w) 0 else 0
def deltaF(z:List Int)(w i:Nat):Int:=z.getD i 0-guessF z w i
def deltas(z:List Int)(w:Nat):List Int:=(List.range z.length).map (deltaF z w)
theorem deltas_len(z:List Int)(w:Nat):(deltas z w).length=z.length:=by simp[deltas]
def filled(xs:List Int)(i:Nat):List Int:=xs.take i++List.replicate (xs.length-i) 0
theorem filled_0(xs:List Int):filled xs 0=List.replicate xs.length 0:=by simp[filled]
theorem filled_all(xs:List Int):filled xs xs.length=xs:=by simp[filled]
theorem filled_len(xs:List Int)(i:Nat)(h:i≤xs.length):(filled xs i).length=xs.length:=by simp[filled];omega
theorem filled_set(xs:List Int)(i:Nat)(h:i<xs.length):(filled xs i).set i (xs.getD i 0)=filled xs (i+1):=by
 have hl:(xs.take i).length=i:=by rw[List.length_take];omega
 unfold filled
 rw[List.set_append_right _ _ (by omega),hl,Nat.sub_self,List.take_succ_eq_append_getElem h,List.append_assoc,show xs.length-i=(xs.length-(i+1))+1 from by omega,List.replicate_succ,List.set_cons_zero]
 simp[List.getD_eq_getElem?_getD,h]
def In16(z:List Int):Prop:=∀i,-32768≤z.getD i 0∧z.getD i 0≤32767
theorem in16_of{z:List Int}(h:∀x∈z,InR .i16 x):In16 z:=fun i=>by
 rcases Nat.lt_or_ge i z.length with hi|hi
 ·exact h (z.getD i 0) (by rw[List.getD_eq_getElem?_getD,List.getElem?_eq_getElem hi];exact List.getElem_mem _)
 ·rw[List.getD_eq_getElem?_getD,List.getElem?_eq_none hi];simp
theorem guessF_range{z:List Int}(h:In16 z)(w i:Nat): -32768≤guessF z w i∧guessF z w i≤32767:=by
 unfold guessF
 split
 ·exact h _
 ·split
  ·exact h _
  ·omega
def rightB(w h:Int):Bool:=decide (1≤w)&&(decide (1≤h)&&(decide (w≤16)&&decide (h≤16)))
theorem right_w(a b:Int)(w:World):Does Tryz.prog 152 [.int .i64 a,.int .i64 b] [] w (fun v S'=>v=.bool (rightB a b)∧S'=[]):=by
 refine does_of Tryz.func152 rfl Tryz.ntmps152 rfl ⟨by simp,.nil⟩ (fun n=>?_)
 simp only[slots]
 unfold rightB
 refine z_gox
 refine j_case 7 rfl (fun h1=>?_) (fun h1=>?_)
 ·rw[h1]
  refine z_gox
  refine j_case 11 rfl (fun h2=>?_) (fun h2=>?_)
  ·rw[h2]
   refine z_gox
   refine j_case 15 rfl (fun h3=>?_) (fun h3=>?_)
   ·rw[h3]
    refine z_gox
    exact j_out1 rfl rfl (.nil _) ⟨by simp,rfl⟩
   ·rw[h3]
    refine z_gox
    exact j_out1 rfl rfl (.nil _) ⟨by simp,rfl⟩
  ·rw[h2]
   refine z_gox
   exact j_out1 rfl rfl (.nil _) ⟨by simp,rfl⟩
 ·rw[h1]
  refine z_gox
  exact j_out1 rfl rfl (.nil _) ⟨by simp,rfl⟩
theorem guess_any(A:Option Addr)(c:Nat)(z:List Int)(wd i:Nat)(w:World)(hr:RoA w (blocks []) A z.length c 1 (ints .i16 z))(hz:In16 z)(hi:i<z.length)(hw:0<wd)(hm:z.length<1000000∧wd<1000000):
  Does Tryz.prog 156 [.slice A z.length c,.int .i64 wd,.int .i64 i] [] w (fun v S'=>v=.int .i32 (guessF z wd i)∧S'=[]):=by
 refine does_of Tryz.func156 rfl Tryz.ntmps156 rfl ⟨by simp,.nil⟩ (fun n=>?_)
 simp only[slots]
 have hmod:((i:Int)%(wd:Int))=((i%wd:Nat):Int):=by omega
 obtain⟨bA,oA,rfl,hat⟩:=hr.at_ (by omega:0<z.length)
 refine z_gox
 refine c_cond rfl (fun h=>?_) (fun h=>?_)
 ·have h1:0<i%wd:=by have:=of_decide_eq_true h;omega
  have hz1:=hz ((i:Int)-1).toNat
  have hi0:0<i:=by
   rcases Nat.eq_zero_or_pos i with e|e
   ·subst e;simp at h1
   ·exact e
  have e:guessF z wd i=z.getD ((i:Int)-1).toNat 0:=by rw[guessF,if_pos h1,show ((i:Int)-1).toNat=i-1 from by omega]
  rw[e]
  refine z_gox
  exact j_out1 rfl rfl (.nil _) ⟨rfl,rfl⟩
 ·have h1:¬0<i%wd:=by have:=of_decide_eq_false h;omega
  refine z_gox
  refine c_cond rfl (fun h2=>?_) (fun h2=>?_)
  ·have hi0:0<i:=by have:=of_decide_eq_true h2;omega
   have hle:wd≤i:=by
    rcases Nat.lt_or_ge i wd with h3|h3
    ·rw[Nat.mod_eq_of_lt h3]at h1;omega
    ·exact h3
   have hz1:=hz ((i:Int)-wd).toNat
   have e:guessF z wd i=z.getD ((i:Int)-wd).toNat 0:=by rw[guessF,if_neg h1,if_pos hi0,show ((i:Int)-wd).toNat=i-wd from by omega]
   rw[e]
   refine z_gox
   exact j_out1 rfl rfl (.nil _) ⟨rfl,rfl⟩
  ·have hi0:¬0<i:=by have:=of_decide_eq_false h2;omega
   have e:guessF z wd i=0:=by rw[guessF,if_neg h1,if_neg hi0]
   rw[e]
   refine z_gox
   exact j_out1 rfl rfl (.nil _) ⟨rfl,rfl⟩
def putB(wd h:Int)(z:List Int):Option (List Int):=if rightB wd h=true∧(z.length:Int)=wd*h then some (pack (rowB (deltas z wd.toNat)))else none
def putC(wd h:Int)(z:List Int):Int:=if rightB wd h=true∧(z.length:Int)=wd*h then 0 else 5
theorem rightB_iff(a b:Int):rightB a b=true↔1≤a∧1≤b∧a≤16∧b≤16:=by simp[rightB]
theorem deltas_fits{z:List Int}(hz:In16 z)(w:Nat):Fits (deltas z w):=fun x hx=>by
 obtain⟨i,-,rfl⟩:=List.mem_map.1 hx
 have h1:=hz i
 have h2:=guessF_range hz w i
 have h3:=foldN_cast (deltaF z w i)
 unfold deltaF at h3 ⊢
 unfold foldI at h3
 split at h3<;>omega
theorem deltas_get(z:List Int)(w i:Nat)(h:i<z.length):(deltas z w).getD i 0=deltaF z w i:=by simp[deltas,List.getD_eq_getElem?_getD,h]
theorem deltas_in{z:List Int}(hz:In16 z)(w:Nat):In32 (deltas z w):=fun i hi=>by
 rw[deltas_len]at hi
 rw[deltas_get z w i hi]
 have h1:=hz i
 have h2:=guessF_range hz w i
 unfold deltaF
 omega
theorem put8_any(A:Option Addr)(c:Nat)(z:List Int)(a b:Int)(w:World)(hr:RoA w (blocks []) A z.length c 1 (ints .i16 z))(hz:In16 z)(hm:z.length<100000):
  Does Tryz.prog 97 [.int .i64 a,.int .i64 b,.slice A z.length c] [] w (fun v S'=>∃A' c',v=.tuple #[.slice A' ((putB a b z).getD []).length c',.int .i64 (putC a b z)]∧S'=[.row (.slice A' ((putB a b z).getD []).length c') 5 1 ((putB a b z).getD []).length (ints .u8 ((putB a b z).getD []))]):=by
 refine does_of Tryz.func97 rfl Tryz.ntmps97 rfl ⟨by simp,.nil⟩ (fun n=>?_)
 simp only[slots]
 refine z_gox
 refine lfv rfl rfl rfl (fun w _=>right_w a b w) ?_
 cases hR:rightB a b with
 | false =>
  have e1:putB a b z=none:=if_neg (by rw[hR];simp)
  have e2:putC a b z=5:=if_neg (by rw[hR];simp)
  rw[e1,e2]
  refine z_gox
  refine j_nil (e:=5) (size:=1) ?_
  exact j_out2 rfl rfl rfl (Sub.refl _) ⟨none,0,rfl,rfl⟩
 | true =>
  obtain⟨ha1,hb1,ha2,hb2⟩:=(rightB_iff a b).1 hR
  have hab:0≤a*b∧a*b≤256:=⟨Int.mul_nonneg (by omega) (by omega),by
   have:=Int.mul_le_mul ha2 hb2 (by omega) (by omega:(0:Int)≤16);omega⟩
  refine z_gox
  refine c_cond rfl (fun h=>?_) (fun h=>?_)
  ·have hne:¬(z.length:Int)=a*b:=by simpa using h
   have e1:putB a b z=none:=if_neg (by rw[hR];simp[hne])
   have e2:putC a b z=5:=if_neg (by rw[hR];simp[hne])
   rw[e1,e2]
   refine z_gox
   refine j_nil (e:=5) (size:=1) ?_
   exact j_out2 rfl rfl rfl (Sub.refl _) ⟨none,0,rfl,rfl⟩
  have heq:(z.length:Int)=a*b:=by simpa using h
  have hz256:z.length≤256:=by omega
  obtain⟨wd,rfl⟩:∃wd:Nat,a=(wd:Int):=⟨a.toNat,by omega⟩
  have e1:putB wd b z=some (pack (rowB (deltas z wd))):=if_pos ⟨hR,heq⟩
  have e2:putC wd b z=0:=if_pos ⟨hR,heq⟩
  have hdl:=deltas_len z wd
  rw[e1,e2]
  refine z_gox
  rename_i b8 b9
  refine c_loop (X:=Nat) (fun i=>i≤z.length) (fun i=>[(0,.int .i64 wd),(2,.slice A z.length c),(8,.pointer (some ⟨b8,0,none⟩)),(9,.slice (some ⟨b9,0,none⟩) z.length z.length),(27,.slice A z.length c),(28,.int .i64 z.length),(29,.int .i64 i)])
   (fun i=>[.row (.slice (some ⟨b9,0,none⟩) z.length z.length) 21 1 z.length (ints .i32 (filled (deltas z wd) i)),.blk b8 265 [.slice none 0 0,.int .i64 0]]) (fun i=>z.length-i) 0 (by simp) ⟨rfl,rfl,rfl,rfl,rfl,rfl,rfl,trivial⟩ (by rw[filled_0,hdl];exact Sub.refl _) ?_
  intro i hi
  have hfl:=filled_len (deltas z wd) i (by omega)
  refine z_gox
  refine c_cond rfl (fun h=>?_) (fun h=>?_)
  ·have hlt:i<z.length:=by have:=of_decide_eq_true h;omega
   have hfs:=filled_set (deltas z wd) i (by omega)
   rw[deltas_get z wd i hlt,deltaF]at hfs
   have hz1:=hz i
   have hg:=guessF_range hz wd i
   obtain⟨bA,oA,rfl,hat⟩:=hr.at_ (by omega:0<z.length)
   refine z_gox
   refine lfv rfl rfl rfl (fun w hw=>guess_any _ c z wd i w ⟨hr.h.go hw (Split.nil _)⟩ hz hlt (by omega) (by omega)) ?_
   refine z_gox
   refine c_round (i+1) (by show i+1≤_;omega) (by show _-(i+1)<_-i;omega) ⟨rfl,rfl,rfl,rfl,rfl,rfl,by simp[look],trivial⟩ (by rw[← hfs];exact Sub.au)
  ·obtain rfl:i=z.length:=by have:=of_decide_eq_false h;omega
   have hrl:=rowB_len (deltas z wd)
   have hbk:=bestK_le (deltas z wd)
   have hbs:=bitsOf_le (deltas z wd) (bestK (deltas z wd)) hbk
   have hpl:=pack_len (rowB (deltas z wd))
   have hfa:=filled_all (deltas z wd)
   rw[hdl]at hfa
   rw[hfa,← hdl]
   refine z_gox
   refine j_nil (e:=5) (size:=1) ?_
   refine lfn (S:=Wr b8 none 0 []) rfl rfl (Split.cons (.there _ (.there _ (.here _ _))) (Split.cons (.here _ _) (Split.nil _))) rfl (fun w hw ho=>row_any b8 0 none [] (some ⟨b9,0,none⟩) (deltas z wd).length (deltas z wd) w ho ⟨Ro.row hw (Split.cons (.there _ (.there _ (.here _ _))) (Split.cons (.here _ _) (Split.nil _))) (.here _ _)⟩ (deltas_in hz wd) (by omega) (by simp)) ?_
   rintro v S' ⟨rfl,A2,c2,rfl⟩
   simp only[List.nil_append]
   refine z_gox
   refine lf rfl rfl rfl (fun w hw ho=>bytes_any b8 c2 A2 (rowB (deltas z wd)) w ho (by omega)) ?_
   rintro v S' ⟨A4,c4,rfl,rfl⟩
   refine z_gox
   exact j_out2 rfl rfl rfl (.cons (.here _ _) (.nil _)) ⟨A4,c4,rfl,rfl⟩
theorem byte_bits:∀x:Fin 256,(128*(if bits .and .u8 ((x:Nat):Int) (128/2^0) != 0 then 1 else 0)+64*(if bits .and .u8 ((x:Nat):Int) (128/2^1) != 0 then 1 else 0)+32*(if bits .and .u8 ((x:Nat):Int) (128/2^2) != 0 then 1 else 0)+16*(if bits .and .u8 ((x:Nat):Int) (128/2^3) != 0 then 1 else 0)+8*(if bits .and .u8 ((x:Nat):Int) (128/2^4) != 0 then 1 else 0)+4*(if bits .and .u8 ((x:Nat):Int) (128/2^5) != 0 then 1 else 0)+2*(if bits .and .u8 ((x:Nat):Int) (128/2^6) != 0 then 1 else 0)+(if bits .and .u8 ((x:Nat):Int) (128/2^7) != 0 then 1 else 0):Nat)=(x:Nat):=by decide +kernel
theorem bitN_rowY(ys:List Int)(i:Nat)(h:i<8*ys.length):bitN (rowY ys) i=if bitY ys i then 1 else 0:=by unfold bitN;rw[rowY_get ys i h]
theorem packAt_rowY{ys:List Int}(hu:U8s ys)(j:Nat)(h:j<ys.length):(packAt (rowY ys) j:Int)=ys.getD j 0:=by
 have hmem:ys.getD j 0∈ys:=by rw[List.getD_eq_getElem?_getD,List.getElem?_eq_getElem h];exact List.getElem_mem _
 obtain⟨x,hx,hx2⟩:∃x:Nat,ys.getD j 0=(x:Int)∧x<256:=by
  have:=hu _ hmem
  exact⟨(ys.getD j 0).toNat,by omega,by omega⟩
 have hb:∀r,r<8→bitN (rowY ys) (8*j+r)=if bits .and .u8 (x:Int) (128/2^r) != 0 then 1 else 0:=by
  intro r hr
  rw[bitN_rowY ys _ (by omega)]
  unfold bitY
  rw[show (8*j+r)/8=j from by omega,show (8*j+r)%8=r from by omega,hx]
 have h0:=hb 0 (by omega)
 rw[Nat.add_zero]at h0
 unfold packAt
 rw[h0,hb 1 (by omega),hb 2 (by omega),hb 3 (by omega),hb 4 (by omega),hb 5 (by omega),hb 6 (by omega),hb 7 (by omega),hx]
 exact congrArg Nat.cast (byte_bits ⟨x,hx2⟩)
theorem pack_rowY{ys:List Int}(hu:U8s ys):pack (rowY ys)=ys:=by
 apply List.ext_getElem?
 intro j
 rw[getElem?_pack,rowY_len]
 by_cases h:j<ys.length
 ·rw[if_pos (by omega),packAt_rowY hu j h,List.getD_eq_getElem?_getD,List.getElem?_eq_getElem h];rfl
 ·rw[if_neg (by omega),List.getElem?_eq_none (by omega)]
theorem packAt_congr{a b:List Bool}(h:∀i,a.getD i false=b.getD i false)(j:Nat):packAt a j=packAt b j:=by unfold packAt bitN;simp only[h]
theorem pack_of{ys:List Int}{l:List Bool}(hu:U8s ys)(h1:isAt ys 0 l)(h2:8*ys.length≤l.length+7)(h3:∀i,l.length≤i→i<8*ys.length→bitY ys i=false):pack l=ys:=by
 have hl:=h1.1
 rw[← pack_rowY hu]
 have hg:∀i,l.getD i false=(rowY ys).getD i false:=by
  intro i
  rcases Nat.lt_or_ge i l.length with h|h
  ·rw[rowY_get ys i (by omega),← h1.2 i h,Nat.zero_add]
  ·have e1:l.getD i false=false:=by rw[List.getD_eq_getElem?_getD,List.getElem?_eq_none h];rfl
   rw[e1]
   rcases Nat.lt_or_ge i (8*ys.length) with h4|h4
   ·rw[rowY_get ys i h4,h3 i h h4]
   ·rw[List.getD_eq_getElem?_getD,List.getElem?_eq_none (by rw[rowY_len];exact h4)];rfl
 apply List.ext_getElem?
 intro j
 rw[getElem?_pack,getElem?_pack,packAt_congr hg,rowY_len,show (l.length+7)/8=(8*ys.length+7)/8 from by omega]
theorem pack_tail{l:List Bool}(i:Nat)(h:l.length≤i)(h2:i<8*(pack l).length):bitY (pack l) i=false:=by
 rw[pack_len]at h2
 have e:(pack l).getD (i/8) 0=(packAt l (i/8):Nat):=by
  rw[List.getD_eq_getElem?_getD,getElem?_pack,if_pos (by omega)];rfl
 unfold bitY
 rw[e,and_bit ⟨packAt l (i/8),packAt_lt _ _⟩ ⟨i%8,by omega⟩]
 show (packAt l (i/8)/2^(7-i%8)%2==1)=_
 rw[packAt_bit l (i/8) (i%8) (by omega),show 8*(i/8)+i%8=i from by omega,bitN_out l i h]
 rfl
theorem close_any(g c:Nat)(A:Option Addr)(ys:List Int)(p:Nat)(w:World)(hown:Own (Rd g A c ys p false) w)(hm:ys.length<100000000)(hp:p≤8*ys.length):
  Does Tryz.prog 155 [.pointer (some ⟨g,0,none⟩)] (Rd g A c ys p false) w (fun v S'=>∃(ok:Bool) (p':Nat) (wr:Bool),v=.bool ok∧S'=Rd g A c ys p' wr∧(ok=true↔8*ys.length≤p+7∧∀i,p≤i→i<8*ys.length→bitY ys i=false)):=by
 refine does_of Tryz.func155 rfl Tryz.ntmps155 rfl hown (fun n=>?_)
 simp only[slots]
 refine z_gox
 refine lk (v:=.int .i64 (8*ys.length-p)) rfl rfl rfl (fun w hw ho=>left_any g c A ys p false w ho hm hp) ?_
 refine z_gox
 refine c_cond rfl (fun h=>?_) (fun h=>?_)
 ·have h1:=of_decide_eq_true h
  refine z_gox
  exact j_out1 rfl rfl (Sub.refl _) ⟨false,p,false,rfl,rfl,by simp;omega⟩
 have h1:=of_decide_eq_false h
 refine z_gox
 refine c_loop (X:=Nat) (fun i=>p≤i∧i≤8*ys.length∧∀j,p≤j→j<i→bitY ys j=false) (fun _=>[(0,.pointer (some ⟨g,0,none⟩))]) (fun i=>Rd g A c ys i false) (fun i=>8*ys.length-i) p ⟨Nat.le_refl _,hp,fun j h1 h2=>by omega⟩ ⟨rfl,trivial⟩ (Sub.refl _) ?_
 rintro i ⟨hi1,hi2,hi3⟩
 refine z_gox
 refine lk (v:=.int .i64 (8*ys.length-i)) rfl rfl rfl (fun w hw ho=>left_any g c A ys i false w ho hm hi2) ?_
 refine z_gox
 refine c_cond rfl (fun h=>?_) (fun h=>?_)
 ·have hlt:i<8*ys.length:=by have:=of_decide_eq_true h;omega
  refine z_gox
  refine lf rfl rfl rfl (fun w hw ho=>rbit_yes g c A ys i w ho hm hlt) ?_
  rintro v S' ⟨rfl,rfl⟩
  refine z_gox
  refine c_cond rfl (fun h2=>?_) (fun h2=>?_)
  ·refine z_gox
   exact j_out1 rfl rfl (Sub.refl _) ⟨false,i+1,false,rfl,rfl,by simp;intro _;exact⟨i,hi1,hlt,h2⟩⟩
  ·refine z_gox
   refine c_round (i+1) ⟨by omega,by omega,fun j h5 h6=>?_⟩ (by show _-(i+1)<_-i;omega) ⟨rfl,trivial⟩ (Sub.refl _)
   by_cases e:j=i
   ·subst e;exact h2
   ·exact hi3 j h5 (by omega)
 ·have hge:i=8*ys.length:=by have:=of_decide_eq_false h;omega
  subst hge
  refine z_gox
  exact j_out1 rfl rfl (Sub.refl _) ⟨true,_,false,rfl,rfl,by simp;exact⟨by omega,hi3⟩⟩
theorem getD_app_left{a b:List Int}{j:Nat}(h:j<a.length):(a++b).getD j 0=a.getD j 0:=by
 simp[List.getD_eq_getElem?_getD,List.getElem?_append_left h]
theorem guessF_app{a b:List Int}{w i:Nat}(hw:0<w)(h:i≤a.length):guessF (a++b) w i=guessF a w i:=by
 unfold guessF
 by_cases h1:0<i%w
 ·have hi:0<i:=by
   rcases Nat.eq_zero_or_pos i with e|e
   ·subst e;simp at h1
   ·exact e
  rw[if_pos h1,if_pos h1,getD_app_left (by omega)]
 ·rw[if_neg h1,if_neg h1]
  by_cases h2:0<i
  ·rw[if_pos h2,if_pos h2,getD_app_left (by omega)]
  ·rw[if_neg h2,if_neg h2]
theorem guessF_take{p:List Int}{w n:Nat}(hw:0<w)(h:n≤p.length):guessF p w n=guessF (p.take n) w n:=by
 conv=>lhs;rw[← List.take_append_drop n p]
 exact guessF_app hw (by rw[List.length_take];omega)
theorem deltas_same{w:Nat}(hw:0<w)(p z:List Int)(hl:p.length≤z.length)(h:∀j,j<p.length→deltaF p w j=deltaF z w j):∀n,n≤p.length→z.take n=p.take n:=by
 intro n
 induction n with
 | zero=>intro _;simp
 | succ n ih =>
  intro hn
  have h1:=ih (by omega)
  have h2:=h n (by omega)
  unfold deltaF at h2
  rw[guessF_take hw (by omega:n≤p.length),guessF_take hw (by omega:n≤z.length),h1]at h2
  rw[List.take_succ_eq_append_getElem (by omega:n<z.length),List.take_succ_eq_append_getElem (by omega:n<p.length),h1]
  have e1:p.getD n 0=p[n]:=by rw[List.getD_eq_getElem?_getD,List.getElem?_eq_getElem (by omega)];rfl
  have e2:z.getD n 0=z[n]:=by rw[List.getD_eq_getElem?_getD,List.getElem?_eq_getElem (by omega)];rfl
  rw[e1,e2]at h2
  rw[show z[n]=p[n]from by omega]
def begun(p:List Int)(n:Nat):List Int:=p++List.replicate (n-p.length) 0
theorem begun_len(p:List Int)(n:Nat)(h:p.length≤n):(begun p n).length=n:=by simp[begun];omega
theorem begun_set(p:List Int)(n:Nat)(x:Int)(h:p.length<n):(begun p n).set p.length x=begun (p++[x]) n:=by
 unfold begun
 rw[List.set_append_right _ _ (by omega),Nat.sub_self,show n-p.length=(n-(p++[x]).length)+1 from by simp;omega,List.replicate_succ,List.set_cons_zero]
 simp
theorem begun_all(p:List Int):begun p p.length=p:=by simp[begun]
theorem in16_begun{p:List Int}(h:In16 p)(n:Nat):In16 (begun p n):=by
 intro i
 unfold begun
 rcases Nat.lt_or_ge i p.length with h1|h1
 ·rw[getD_app_left h1];exact h i
 ·rw[List.getD_eq_getElem?_getD,List.getElem?_append_right h1,List.getElem?_replicate]
  split<;>simp
theorem in16_snoc{p:List Int}(h:In16 p){x:Int}(h1 : -32768≤x)(h2:x≤32767):In16 (p++[x]):=by
 intro i
 rcases Nat.lt_trichotomy i p.length with h3|h3|h3
 ·rw[getD_app_left h3];exact h i
 ·subst h3;simp[List.getD_eq_getElem?_getD];omega
 ·rw[List.getD_eq_getElem?_getD,List.getElem?_eq_none (by simp;omega)];simp
def Rowed(m:Nat)(ys:List Int):Prop:=∃xs:List Int,xs.length=m∧Fits xs∧pack (rowB xs)=ys
def GetR8(wd h:Nat)(ys:List Int)(v:Value)(S':List HE):Prop :=
 ∃(zs:List Int) (A:Option Addr) (c:Nat) (code:Int) (T:List HE),v=.tuple #[.slice A zs.length c,.int .i64 code]∧S'=.row (.slice A zs.length c) 86 1 zs.length (ints .i16 zs)::T ∧
  ((code=0∧zs.length=wd*h∧In16 zs∧pack (rowB (deltas zs wd))=ys)∨(((code=3∧¬Rowed (wd*h) ys)∨(code=2∧Rowed (wd*h) ys))∧zs=[]∧∀z,z.length=wd*h→In16 z→pack (rowB (deltas z wd))≠ys))
theorem get8_any(A:Option Addr)(c:Nat)(ys:List Int)(wd h:Nat)(w:World)(hr:RoA w (blocks []) A ys.length c 1 (ints .u8 ys))(hu:U8s ys)(hm:ys.length<100000)(hwh:1≤wd∧wd≤16∧1≤h∧h≤16):
  Does Tryz.prog 93 [.int .i64 wd,.int .i64 h,.slice A ys.length c] [] w (GetR8 wd h ys):=by
 have hab:wd*h≤256:=by have:=Nat.mul_le_mul hwh.2.1 hwh.2.2.2;omega
 have hR:rightB wd h=true:=(rightB_iff _ _).2 (by omega)
 have hcast:(wd:Int)*(h:Int)=((wd*h:Nat):Int):=by push_cast;rfl
 refine does_of Tryz.func93 rfl Tryz.ntmps93 rfl ⟨by simp,.nil⟩ (fun n=>?_)
 simp only[slots]
 refine z_gox
 refine lfv (v:=.bool true) rfl rfl rfl (fun w _=>(by have:=right_w wd h w;rw[hR]at this;exact this)) ?_
 refine z_gox
 refine lf rfl rfl rfl (S:=[]) (fun w hw ho=>read_any _ ys w (hr.h.go hw (Split.nil _)) (by omega)) ?_
 rintro v S' ⟨g,A5,c5,rfl,rfl⟩
 refine z_gox
 rw[hcast]
 refine lf rfl rfl rfl (fun w hw ho=>isrow_any g c5 A5 ys 0 (wd*h) w ho (by omega) (by omega) (by omega)) ?_
 rintro v S' ⟨xs,Ax,cx,p',ok,wr,rfl,rfl,hp',hok⟩
 have hno3:(∀z:List Int,z.length=wd*h→In16 z→isAt ys 0 (rowB (deltas z wd))→False)→∀z,z.length=wd*h→In16 z→pack (rowB (deltas z wd))≠ys:=by
  intro hf z hz1 hz2 he
  exact hf z hz1 hz2 (by rw[← he];exact isAt_pack0 _)
 rcases hok with⟨rfl,rfl,hxl,hxf,hxi,rfl,hxat⟩ | ⟨rfl,hno⟩
 rotate_left
 ·refine z_gox
  refine j_nil (e:=86) (size:=1) ?_
  exact j_out2 rfl rfl rfl (Sub.refl _) ⟨[],none,0,3,_,rfl,rfl,.inr ⟨.inl ⟨rfl,fun ⟨xs',h1,h2,h3⟩=>hno xs' h1 h2 (by rw[← h3];exact isAt_pack0 _)⟩,rfl,hno3 fun z hz1 hz2 hat=>hno (deltas z wd) (by rw[deltas_len,hz1]) (deltas_fits hz2 wd) hat⟩⟩
 simp only[Nat.zero_add]at hp' ⊢
 refine z_gox
 refine lf rfl rfl rfl (fun w hw ho=>close_any g c5 A5 ys (rowB xs).length w ho (by omega) hp') ?_
 rintro v S' ⟨ok,p2,wr2,rfl,rfl,hcl⟩
 cases ok with
 | false =>
  refine z_gox
  refine j_nil (e:=86) (size:=1) ?_
  have hnr:¬Rowed (wd*h) ys:=by
   rintro⟨xs',h1,h2,he⟩
   have hat:isAt ys 0 (rowB xs'):=by rw[← he];exact isAt_pack0 _
   have e:=row_back hxat hat (by rw[h1,hxl]) hxf h2
   rw[e]at he
   have:false=true:=hcl.2 ⟨by rw[← he,pack_len];omega,fun i h1 h2=>by rw[← he]at h2 ⊢;exact pack_tail i h1 h2⟩
   cases this
  exact j_out2 rfl rfl rfl (Sub.refl _) ⟨[],none,0,3,_,rfl,rfl,.inr ⟨.inl ⟨rfl,hnr⟩,rfl,fun z hz1 hz2 he=>hnr ⟨_,by rw[deltas_len,hz1],deltas_fits hz2 wd,he⟩⟩⟩
 | true =>
  have hpk:pack (rowB xs)=ys:=pack_of hu hxat (hcl.1 rfl).1 (hcl.1 rfl).2
  refine z_gox
  rename_i b11
  refine c_loop (X:=List Int) (fun p=>p.length≤xs.length∧In16 p∧∀j,j<p.length→deltaF p wd j=xs.getD j 0) (fun p=>[(0,.int .i64 wd),(11,.slice (some ⟨b11,0,none⟩) xs.length xs.length),(39,.slice Ax xs.length cx),(40,.int .i64 xs.length),(41,.int .i64 p.length)])
   (fun p=>[.row (.slice (some ⟨b11,0,none⟩) xs.length xs.length) 86 1 xs.length (ints .i16 (begun p xs.length)),.row (.slice Ax xs.length cx) 21 1 xs.length (ints .i32 xs)]) (fun p=>xs.length-p.length) [] ⟨by simp,by intro i;simp,by simp⟩ ⟨rfl,rfl,rfl,rfl,rfl,trivial⟩ (by simp only[begun,List.nil_append,List.length_nil,Nat.sub_zero];exact Sub.au) ?_
  rintro p ⟨hp1,hp2,hp3⟩
  have hql:=begun_len p xs.length hp1
  refine z_gox
  refine c_cond rfl (fun h5=>?_) (fun h5=>?_)
  ·have hlt:p.length<xs.length:=by have:=of_decide_eq_true h5;omega
   have hgr:=guessF_range hp2 wd p.length
   have hge:guessF (begun p xs.length) wd p.length=guessF p wd p.length:=guessF_app (by omega) (Nat.le_refl _)
   have hmem:xs.getD p.length 0∈xs:=by rw[List.getD_eq_getElem?_getD,List.getElem?_eq_getElem hlt];exact List.getElem_mem _
   have hd:=hxf _ hmem
   have hd2:=foldN_cast (xs.getD p.length 0)
   have hd3 : -65536≤xs.getD p.length 0∧xs.getD p.length 0≤65535:=by unfold foldI at hd2;split at hd2<;>omega
   refine z_gox
   refine lfv (v:=.int .i32 (guessF p wd p.length)) rfl rfl rfl (fun w hw=>by
    have hq:RoA w (blocks []) (some ⟨b11,0,none⟩) xs.length xs.length 1 (ints .i16 (begun p xs.length)):=⟨Ro.row hw (Split.nil _) (by refine z_hasf)⟩
    have hd:=guess_any (some ⟨b11,0,none⟩) xs.length (begun p xs.length) wd p.length w (by rw[hql];exact hq) (in16_begun hp2 _) (by omega) (by omega) (by omega)
    rw[hql,hge]at hd
    exact hd) ?_
   refine z_gox
   have bad:¬(-32768≤guessF p wd p.length+xs.getD p.length 0∧guessF p wd p.length+xs.getD p.length 0≤32767)→∀z,z.length=wd*h→In16 z→pack (rowB (deltas z wd))≠ys:=by
    intro hb
    refine hno3 fun z hz1 hz2 hat=>hb ?_
    have e:=row_back hxat hat (by rw[deltas_len,hz1,hxl]) hxf (deltas_fits hz2 wd)
    have e1:∀j,j<p.length→deltaF p wd j=deltaF z wd j:=fun j hj=>by rw[hp3 j hj,← e,deltas_get z wd j (by omega)]
    have e2:=deltas_same (by omega:0<wd) p z (by omega) e1 p.length (Nat.le_refl _)
    rw[List.take_of_length_le (Nat.le_refl p.length)]at e2
    have e3:xs.getD p.length 0=deltaF z wd p.length:=by rw[← e,deltas_get z wd _ (by omega)]
    have e4:=guessF_take (by omega:0<wd) (by omega:p.length≤z.length)
    rw[e2]at e4
    rw[e3,deltaF,e4]
    have:=hz2 p.length
    omega
   refine j_case 54 rfl (fun h6=>?_) (fun h6=>?_)
   ·have h6':=of_decide_eq_true h6
    refine z_gox
    refine j_nil (e:=86) (size:=1) ?_
    exact j_out2 rfl rfl rfl (Sub.refl _) ⟨[],none,0,2,_,rfl,rfl,.inr ⟨.inr ⟨rfl,xs,hxl,hxf,hpk⟩,rfl,bad (by omega)⟩⟩
   have h6':=of_decide_eq_false h6
   refine z_gox
   refine c_cond rfl (fun h7=>?_) (fun h7=>?_)
   ·have h7':=of_decide_eq_true h7
    refine z_gox
    refine j_nil (e:=86) (size:=1) ?_
    exact j_out2 rfl rfl rfl (Sub.refl _) ⟨[],none,0,2,_,rfl,rfl,.inr ⟨.inr ⟨rfl,xs,hxl,hxf,hpk⟩,rfl,bad (by omega)⟩⟩
   have h7':=of_decide_eq_false h7
   have hbs:=begun_set p xs.length (guessF p wd p.length+xs.getD p.length 0) hlt
   refine z_gox
   rw[hbs]
   refine c_round (p++[guessF p wd p.length+xs.getD p.length 0]) ⟨by simp;omega,in16_snoc hp2 (by omega) (by omega),fun j hj=>?_⟩ (by show _-(p++[_]).length<_-p.length;simp;omega) ⟨rfl,rfl,rfl,rfl,by simp[look],trivial⟩ Sub.au
   rw[List.length_append,List.length_singleton]at hj
   unfold deltaF
   rw[guessF_app (by omega) (by omega)]
   rcases Nat.lt_or_ge j p.length with h8|h8
   ·rw[getD_app_left h8];exact hp3 j h8
   ·obtain rfl:j=p.length:=by omega
    have:(p++[guessF p wd p.length+xs.getD p.length 0]).getD p.length 0=guessF p wd p.length+xs.getD p.length 0:=by simp[List.getD_eq_getElem?_getD]
    rw[this];omega
  ·have hpe:p.length=xs.length:=by have:=of_decide_eq_false h5;omega
   have hdx:deltas p wd=xs:=by
    apply List.ext_getElem (by rw[deltas_len,hpe])
    intro j h8 h9
    have:=hp3 j (by omega)
    rw[← deltas_get p wd j (by omega),List.getD_eq_getElem?_getD,List.getD_eq_getElem?_getD,List.getElem?_eq_getElem h8,List.getElem?_eq_getElem h9]at this
    simpa using this
   have hba:=begun_all p
   rw[hpe]at hba
   rw[hba,← hpe]
   refine z_gox
   exact j_out2 rfl rfl rfl (Sub.refl _) ⟨p,_,_,0,_,rfl,rfl,.inl ⟨rfl,by omega,hp2,by rw[hdx];exact hpk⟩⟩
def cntF(n:Nat):Nat:=(n+15)/16
def boxIs(W H:Nat)(X Y:Int):Bool:=decide (0≤X)&&decide (0≤Y)&&decide (X<cntF W)&&decide (Y<cntF H)
def boxF(W H:Nat)(X Y:Int):Nat×Nat×Nat×Nat:=if boxIs W H X Y=true then (16*X.toNat,16*Y.toNat,min 16 (W-16*X.toNat),min 16 (H-16*Y.toNat))else (0,0,0,0)
theorem boxIs_iff(W H:Nat)(X Y:Int):boxIs W H X Y=true↔0≤X∧0≤Y∧X<cntF W∧Y<cntF H:=by simp[boxIs,and_assoc]
theorem boxF_in(W H:Nat)(X Y:Int):(boxF W H X Y).1+(boxF W H X Y).2.2.1≤W∧(boxF W H X Y).2.1+(boxF W H X Y).2.2.2≤H∧(boxF W H X Y).2.2.1≤16∧(boxF W H X Y).2.2.2≤16:=by
 unfold boxF
 split
 ·rename_i h
  have:=(boxIs_iff W H X Y).1 h
  unfold cntF at this
  simp only
  omega
 ·simp
theorem cnt_any(m:Nat)(w:World)(hm:m<1000000):Does Tryz.prog 91 [.int .i64 m] [] w (fun v S'=>v=.int .i64 (cntF m:Nat)∧S'=[]):=by
 refine does_of Tryz.func91 rfl Tryz.ntmps91 rfl ⟨by simp,.nil⟩ (fun n=>?_)
 simp only[slots]
 refine z_gox
 refine j_out1 rfl rfl (.nil _) ⟨?_,rfl⟩
 unfold cntF
 congr 1
 omega
theorem box_any(W H:Nat)(X Y:Int)(w:World)(hX:InR .i64 X)(hY:InR .i64 Y)(hm:W<1000000∧H<1000000):
  Does Tryz.prog 92 [.int .i64 W,.int .i64 H,.agg #[.int .i64 X,.int .i64 Y]] [] w (fun v S'=>v=.tuple #[.int .i64 ((boxF W H X Y).1:Nat),.int .i64 ((boxF W H X Y).2.1:Nat),.int .i64 ((boxF W H X Y).2.2.1:Nat),.int .i64 ((boxF W H X Y).2.2.2:Nat)]∧S'=[]):=by
 have hiff:=boxIs_iff W H X Y
 refine does_of Tryz.func92 rfl Tryz.ntmps92 rfl ⟨by simp,.nil⟩ (fun n=>?_)
 simp only[slots]
 have bad:boxIs W H X Y=false→boxF W H X Y=(0,0,0,0):=fun h=>by unfold boxF;rw[h];rfl
 refine z_gox
 refine c_drw rfl (by decide) (by decide +kernel) ?_
 refine z_hq
 refine h_case 15 rfl (fun h=>?_) (fun h=>?_)
 ·have h':=of_decide_eq_true h
  have hb:=bad (by rw[← Bool.not_eq_true,hiff];omega)
  refine z_hq
  refine h_nil ?_
  rw[hb]
  refine z_gox
  exact j_out4 rfl rfl rfl rfl rfl (.nil _) ⟨rfl,rfl⟩
 have h1:=of_decide_eq_false h
 refine z_hq
 refine h_case 20 rfl (fun h=>?_) (fun h=>?_)
 ·have h':=of_decide_eq_true h
  have hb:=bad (by rw[← Bool.not_eq_true,hiff];omega)
  refine z_hq
  refine h_nil ?_
  rw[hb]
  refine z_gox
  exact j_out4 rfl rfl rfl rfl rfl (.nil _) ⟨rfl,rfl⟩
 have h2:=of_decide_eq_false h
 refine z_hq
 refine hfv rfl rfl rfl (fun w _=>cnt_any W w (by omega)) ?_
 refine z_hq
 refine h_case 27 rfl (fun h=>?_) (fun h=>?_)
 ·have h':=of_decide_eq_true h
  have hb:=bad (by rw[← Bool.not_eq_true,hiff];omega)
  refine z_hq
  refine h_nil ?_
  rw[hb]
  refine z_gox
  exact j_out4 rfl rfl rfl rfl rfl (.nil _) ⟨rfl,rfl⟩
 have h3:=of_decide_eq_false h
 refine z_hq
 refine hfv rfl rfl rfl (fun w _=>cnt_any H w (by omega)) ?_
 refine z_hq
 refine h_nil ?_
 refine z_gox
 refine c_cond rfl (fun h=>?_) (fun h=>?_)
 ·have h':=of_decide_eq_true h
  have hb:=bad (by rw[← Bool.not_eq_true,hiff];omega)
  rw[hb]
  refine z_gox
  exact j_out4 rfl rfl rfl rfl rfl (.nil _) ⟨rfl,rfl⟩
 have h4:=of_decide_eq_false h
 have hok:boxIs W H X Y=true:=hiff.2 (by omega)
 have hbx:boxF W H X Y=(16*X.toNat,16*Y.toNat,min 16 (W-16*X.toNat),min 16 (H-16*Y.toNat)):=by unfold boxF;rw[if_pos hok]
 rw[hbx]
 unfold cntF at h3 h4
 refine z_gox
 refine j_out4 rfl rfl rfl rfl rfl (.nil _) ⟨?_,rfl⟩
 have e1:X*16=((16*X.toNat:Nat):Int):=by omega
 have e2:Y*16=((16*Y.toNat:Nat):Int):=by omega
 have e3:min 16 ((W:Int)-X*16)=((min 16 (W-16*X.toNat):Nat):Int):=by omega
 have e4:min 16 ((H:Int)-Y*16)=((min 16 (H-16*Y.toNat):Nat):Int):=by omega
 rw[e3,e4,e1,e2]
def chkF(W H:Int)(z:List Int):Int:=if W<2∨H<2∨256<W∨256<H then 2 else if (z.length:Int)=W*H then 0 else 5
theorem chk_any(W H:Int)(A:Option Addr)(c:Nat)(z:List Int)(w:World):
  Does Tryz.prog 94 [.agg #[.int .i64 W,.int .i64 H,.slice A z.length c]] [] w (fun v S'=>v=.int .i64 (chkF W H z)∧S'=[]):=by
 refine does_of Tryz.func94 rfl Tryz.ntmps94 rfl ⟨by simp,.nil⟩ (fun n=>?_)
 simp only[slots]
 unfold chkF
 refine z_gox
 refine j_case 6 rfl (fun h=>?_) (fun h=>?_)
 ·have h':=of_decide_eq_true h
  rw[if_pos (by omega)]
  refine z_gox
  exact j_out1 rfl rfl (.nil _) ⟨rfl,rfl⟩
 have h1:=of_decide_eq_false h
 refine z_gox
 refine j_case 11 rfl (fun h=>?_) (fun h=>?_)
 ·have h':=of_decide_eq_true h
  rw[if_pos (by omega)]
  refine z_gox
  exact j_out1 rfl rfl (.nil _) ⟨rfl,rfl⟩
 have h2:=of_decide_eq_false h
 refine z_gox
 refine j_case 16 rfl (fun h=>?_) (fun h=>?_)
 ·have h':=of_decide_eq_true h
  rw[if_pos (by omega)]
  refine z_gox
  exact j_out1 rfl rfl (.nil _) ⟨rfl,rfl⟩
 have h3:=of_decide_eq_false h
 refine z_gox
 refine c_cond rfl (fun h=>?_) (fun h=>?_)
 ·have h':=of_decide_eq_true h
  rw[if_pos (by omega)]
  refine z_gox
  exact j_out1 rfl rfl (.nil _) ⟨rfl,rfl⟩
 have h4:=of_decide_eq_false h
 have hab:0≤W*H∧W*H≤65536:=⟨Int.mul_nonneg (by omega) (by omega),by
  have:=Int.mul_le_mul (by omega:W≤256) (by omega:H≤256) (by omega) (by omega:(0:Int)≤256);omega⟩
 rw[if_neg (by omega)]
 refine z_gox
 refine c_cond rfl (fun h=>?_) (fun h=>?_)
 ·rw[if_neg (by simpa using h)]
  refine z_gox
  exact j_out1 rfl rfl (.nil _) ⟨rfl,rfl⟩
 ·rw[if_pos (by simpa using h)]
  refine z_gox
  exact j_out1 rfl rfl (.nil _) ⟨rfl,rfl⟩
instance:YesAgg (Tryz.t133.desc):=⟨by kernel_rfl⟩
instance:YesAgg (Tryz.t40.desc):=⟨by kernel_rfl⟩
def rowAt(z:List Int)(W x y bw r:Nat):List Int:=(z.drop ((y+r)*W+x)).take bw
def cutTo(z:List Int)(W x y bw:Nat):Nat→List Int
 | 0=>[]
 | r+1=>cutTo z W x y bw r++rowAt z W x y bw r
def cutF(W H:Nat)(z:List Int)(X Y:Int):List Int:=cutTo z W (boxF W H X Y).1 (boxF W H X Y).2.1 (boxF W H X Y).2.2.1 (boxF W H X Y).2.2.2
def layTo(ys:List Int)(W x y bw:Nat)(z:List Int):Nat→List Int
 | 0=>z
 | r+1=>lay (layTo ys W x y bw z r) ((y+r)*W+x) ((ys.drop (r*bw)).take bw)
theorem at_le{W H x y bw bh r:Nat}(hx:x+bw≤W)(hy:y+bh≤H)(hr:r<bh):(y+r)*W+x+bw≤W*H:=by
 have h1:(y+r+1)*W≤H*W:=Nat.mul_le_mul_right _ (by omega)
 rw[Nat.add_mul,Nat.one_mul]at h1
 rw[Nat.mul_comm W H]
 omega
theorem rowAt_len{z:List Int}{W H x y bw bh r:Nat}(hz:z.length=W*H)(hx:x+bw≤W)(hy:y+bh≤H)(hr:r<bh):(rowAt z W x y bw r).length=bw:=by
 have:=at_le hx hy hr
 unfold rowAt
 rw[List.length_take,List.length_drop];omega
theorem cutTo_len{z:List Int}{W H x y bw bh:Nat}(hz:z.length=W*H)(hx:x+bw≤W)(hy:y+bh≤H):∀r,r≤bh→(cutTo z W x y bw r).length=r*bw
 | 0,_=>by simp[cutTo]
 | r+1,h=>by rw[cutTo,List.length_append,cutTo_len hz hx hy r (by omega),rowAt_len hz hx hy (by omega:r<bh),Nat.add_mul,Nat.one_mul]
theorem layTo_len{ys z:List Int}{W H x y bw bh:Nat}(hz:z.length=W*H)(hx:x+bw≤W)(hy:y+bh≤H)(hys:ys.length=bw*bh):∀r,r≤bh→(layTo ys W x y bw z r).length=W*H
 | 0,_=>hz
 | r+1,h=>by
  have h1:=layTo_len hz hx hy hys r (by omega)
  have h2:=at_le hx hy (by omega:r<bh)
  have h3:((ys.drop (r*bw)).take bw).length=bw:=by
   have h4:(r+1)*bw≤bh*bw:=Nat.mul_le_mul_right _ (by omega)
   rw[Nat.add_mul,Nat.one_mul,Nat.mul_comm bh]at h4
   rw[List.length_take,List.length_drop];omega
  rw[layTo,lay_len _ _ _ (by rw[h3,h1];omega),h1]
theorem cut_any(W H:Nat)(A:Option Addr)(c:Nat)(z:List Int)(X Y:Int)(w:World)(hr:RoA w (blocks []) A z.length c 1 (ints .i16 z))(hX:InR .i64 X)(hY:InR .i64 Y)(hm:W≤256∧H≤256)(hz:z.length=W*H):
  Does Tryz.prog 98 [.agg #[.int .i64 W,.int .i64 H,.slice A z.length c],.agg #[.int .i64 X,.int .i64 Y]] [] w (fun v S'=>∃A' c',v=.slice A' (cutF W H z X Y).length c'∧S'=[.row (.slice A' (cutF W H z X Y).length c') 86 1 (cutF W H z X Y).length (ints .i16 (cutF W H z X Y))]):=by
 have hbx:=boxF_in W H X Y
 have hWH:W*H≤65536:=by have:=Nat.mul_le_mul hm.1 hm.2;omega
 refine does_of Tryz.func98 rfl Tryz.ntmps98 rfl ⟨by simp,.nil⟩ (fun n=>?_)
 simp only[slots]
 unfold cutF
 refine j_nil (e:=86) (size:=1) ?_
 refine z_gox
 rename_i b2 b3
 refine lfv rfl rfl rfl (fun w _=>box_any W H X Y w hX hY (by omega)) ?_
 generalize boxF W H X Y=bx at *
 obtain⟨x,y,bw,bh⟩:=bx
 simp only at hbx ⊢
 obtain⟨h1,h2,h3,h4⟩:=hbx
 refine z_gox
 refine c_loop (X:=Nat×Option Addr×Nat) (fun q=>q.1≤bh) (fun q=>[(2,.pointer (some ⟨b2,0,none⟩)),(5,.int .i64 x),(6,.int .i64 y),(7,.int .i64 bw),(9,.slice q.2.1 (cutTo z W x y bw q.1).length q.2.2),(23,.int .i64 bh),(24,.int .i64 q.1)])
  (fun q=>[.row (.slice q.2.1 (cutTo z W x y bw q.1).length q.2.2) 86 1 (cutTo z W x y bw q.1).length (ints .i16 (cutTo z W x y bw q.1)),.blk b2 41 [.int .i64 W,.int .i64 H,.slice A z.length c]]) (fun q=>bh-q.1) (0,none,0) (by simp) ⟨rfl,rfl,rfl,rfl,rfl,rfl,rfl,trivial⟩ (.cons (.there _ (.there _ (.here _ _))) (.cons (.there _ (.here _ _)) (.nil _))) ?_
 rintro⟨r,A1,c1⟩ hr1
 simp only at hr1 ⊢
 have hcl:=cutTo_len hz h1 h2 r hr1
 refine z_gox
 refine c_cond rfl (fun h=>?_) (fun h=>?_)
 ·have hlt:r<bh:=by have:=of_decide_eq_true h;omega
  have hle:=at_le h1 h2 hlt
  have hcb:r*bw≤256:=by have:=Nat.mul_le_mul (by omega:r≤16) (by omega:bw≤16);omega
  have hcast:((y:Int)+r)*W+x=(((y+r)*W+x:Nat):Int):=by push_cast;rfl
  have hmul:((y:Int)+r)*W=(((y+r)*W:Nat):Int):=by push_cast;rfl
  have hmul2:0≤((y:Int)+r)*W∧((y:Int)+r)*W≤65536:=by rw[hmul];omega
  have hct:cutTo z W x y bw (r+1)=cutTo z W x y bw r++(z.drop ((y+r)*W+x)).take ((y+r)*W+x+bw-((y+r)*W+x)):=by
   rw[Nat.add_sub_cancel_left];rfl
  have hcap:z.length≤c:=by obtain⟨_,_,e1,e2,_⟩:=hr.h;injection e1 with _ e3 e4;omega
  refine z_gox
  refine j_set 38 _ rfl (v':=.int .i64 (((y+r)*W+x:Nat):Int)) (by rw[hcast]) ?_
  refine j_set 41 _ rfl (v':=.int .i64 (((y+r)*W+x+bw:Nat):Int)) (by rw[hcast];push_cast;rfl) ?_
  refine j_sub ((y+r)*W+x) ((y+r)*W+x+bw) hr (by omega) (fun hsub=>?_)
  refine z_gox
  rename_i A2 c2
  exact c_round (r+1,A2,c2) (by show r+1≤_;omega) (by show _-(r+1)<_-r;omega) ⟨rfl,rfl,rfl,rfl,by rw[hct];rfl,rfl,by simp[look],trivial⟩ (by rw[hct];exact Sub.au)
 ·obtain rfl:r=bh:=by have:=of_decide_eq_false h;omega
  refine z_gox
  exact j_out1 rfl rfl Sub.au ⟨_,_,rfl,rfl⟩
theorem lay_any(W H:Nat)(A B:Option Addr)(c d:Nat)(z ys:List Int)(X Y:Int)(w:World)(hown:Own [.row (.slice A z.length c) 86 1 z.length (ints .i16 z)] w)(hr:RoA w (blocks [.row (.slice A z.length c) 86 1 z.length (ints .i16 z)]) B ys.length d 1 (ints .i16 ys))(hX:InR .i64 X)(hY:InR .i64 Y)(hm:2≤W∧W≤256∧2≤H∧H≤256)(hz:z.length=W*H)(hc:z.length≤c)(hyb:ys.length<1000000):
  Does Tryz.prog 51 [.agg #[.int .i64 W,.int .i64 H,.slice A z.length c],.agg #[.int .i64 X,.int .i64 Y],.slice B ys.length d] [.row (.slice A z.length c) 86 1 z.length (ints .i16 z)] w
   (fun v S'=>(v=.bool true∧ys.length=(boxF W H X Y).2.2.1*(boxF W H X Y).2.2.2∧0<(boxF W H X Y).2.2.1∧S'=[.row (.slice A z.length c) 86 1 z.length (ints .i16 (layTo ys W (boxF W H X Y).1 (boxF W H X Y).2.1 (boxF W H X Y).2.2.1 z (boxF W H X Y).2.2.2))]) ∨
    (v=.bool false∧¬(ys.length=(boxF W H X Y).2.2.1*(boxF W H X Y).2.2.2∧0<(boxF W H X Y).2.2.1)∧S'=[.row (.slice A z.length c) 86 1 z.length (ints .i16 z)])):=by
 have hbx:=boxF_in W H X Y
 have hWH:W*H≤65536:=by have:=Nat.mul_le_mul hm.2.1 hm.2.2.2;omega
 have hchk:chkF W H z=0:=by
  unfold chkF
  rw[if_neg (by omega),if_pos (by rw[hz];push_cast;rfl)]
 refine does_of Tryz.func51 rfl Tryz.ntmps51 rfl hown (fun n=>?_)
 simp only[slots]
 refine z_gox
 rename_i b3 b4
 refine lfv rfl rfl rfl (fun w _=>box_any W H X Y w hX hY (by omega)) ?_
 generalize boxF W H X Y=bx at *
 obtain⟨x,y,bw,bh⟩:=bx
 simp only at hbx ⊢
 obtain⟨h1,h2,h3,h4⟩:=hbx
 have hbb:bw*bh≤256:=by have:=Nat.mul_le_mul h3 h4;omega
 have hbc:(bw:Int)*bh=((bw*bh:Nat):Int):=by push_cast;rfl
 have hbi:0≤(bw:Int)*bh∧(bw:Int)*bh≤256:=by rw[hbc];omega
 refine z_gox
 refine lfv (v:=.int .i64 0) rfl rfl rfl (fun w _=>(by have:=chk_any W H A c z w;rw[hchk]at this;exact this)) ?_
 refine z_gox
 refine j_case 34 rfl (fun h=>?_) (fun h=>?_)
 ·have hne:¬(ys.length:Int)=(bw:Int)*bh:=by simpa using h
  refine z_gox
  exact j_out1 rfl rfl (.cons (.there _ (.there _ (.here _ _))) (.nil _)) (.inr ⟨rfl,fun e=>hne (by rw[hbc,e.1]),rfl⟩)
 have hyl : ys.length = bw * bh := by have : (ys.length : Int) = (bw : Int) * bh := by simpa using h
                                      omega
 refine z_gox
 refine c_cond rfl (fun h=>?_) (fun h=>?_)
 ·have h0 : bw = 0 := by have : (bw : Int) = 0 := by simpa using h
                         omega
  refine z_gox
  exact j_out1 rfl rfl (.cons (.there _ (.there _ (.here _ _))) (.nil _)) (.inr ⟨rfl,fun e=>by omega,rfl⟩)
 have h0 : 0 < bw := by have : ¬ (bw : Int) = 0 := by simpa using h
                        omega
 refine z_gox
 refine c_loop (X:=Nat) (fun r=>r≤bh) (fun r=>[(2,.slice B ys.length d),(3,.pointer (some ⟨b3,0,none⟩)),(7,.int .i64 x),(8,.int .i64 y),(9,.int .i64 bw),(38,.int .i64 bh),(39,.int .i64 r)])
  (fun r=>[.row (.slice A z.length c) 86 1 z.length (ints .i16 (layTo ys W x y bw z r)),.blk b3 41 [.int .i64 W,.int .i64 H,.slice A z.length c]]) (fun r=>bh-r) 0 (by simp) ⟨rfl,rfl,rfl,rfl,rfl,rfl,rfl,trivial⟩ (.cons (.there _ (.there _ (.here _ _))) (.cons (.there _ (.here _ _)) (.nil _))) ?_
 intro r hr1
 have hll:=layTo_len hz h1 h2 hyl r hr1
 refine z_gox
 refine c_cond rfl (fun h=>?_) (fun h=>?_)
 ·have hlt:r<bh:=by have:=of_decide_eq_true h;omega
  have hle:=at_le h1 h2 hlt
  have hcast:((y:Int)+r)*W+x=(((y+r)*W+x:Nat):Int):=by push_cast;rfl
  have hmul:((y:Int)+r)*W=(((y+r)*W:Nat):Int):=by push_cast;rfl
  have hmul2:0≤((y:Int)+r)*W∧((y:Int)+r)*W≤65536:=by rw[hmul];omega
  have hr2:(r+1)*bw≤bw*bh:=by rw[Nat.mul_comm bw bh];exact Nat.mul_le_mul_right _ (by omega)
  have hr3:r*bw+bw=(r+1)*bw:=by rw[Nat.add_mul,Nat.one_mul]
  have hc1:(r:Int)*bw=((r*bw:Nat):Int):=by push_cast;rfl
  have hc2:((r:Int)+1)*bw=(((r+1)*bw:Nat):Int):=by push_cast;rfl
  have hm1:0≤(r:Int)*bw∧(r:Int)*bw≤256:=by rw[hc1];omega
  have hm2:0≤((r:Int)+1)*bw∧((r:Int)+1)*bw≤256:=by rw[hc2];omega
  refine z_gox
  have hdd:ys.length≤d:=by obtain⟨_,_,e1,e2,_⟩:=hr.h;injection e1 with _ e3 e4;omega
  refine j_sub (r*bw) ((r+1)*bw) hr (by omega) (fun hsub=>?_)
  refine c_draw 20 (by decide) (by decide +kernel) ?_
  refine z_hq
  refine h_set 51 _ rfl (v':=.int .i64 (((y+r)*W+x:Nat):Int)) (by rw[hcast]) ?_
  refine z_hq
  refine h_set 56 _ rfl (v':=.int .i64 ((r*bw:Nat):Int)) (by rw[hc1]) ?_
  refine h_set 60 _ rfl (v':=.int .i64 (((r+1)*bw:Nat):Int)) (by rw[hc2]) ?_
  refine z_hq
  refine h_nil ?_
  have hls:layTo ys W x y bw z (r+1)=lay (layTo ys W x y bw z r) ((y+r)*W+x) ((ys.drop (r*bw)).take ((r+1)*bw-r*bw)):=by
   rw[show (r+1)*bw-r*bw=bw from by omega];rfl
  refine lcp (A:=A) (c:=c) (m:=z.length) (zs:=layTo ys W x y bw z r) (l:=(y+r)*W+x) rfl rfl (by omega) rfl ?_
  refine z_gox
  exact c_round (r+1) (by show r+1≤_;omega) (by show _-(r+1)<_-r;omega) ⟨rfl,rfl,rfl,rfl,rfl,rfl,by simp[look],trivial⟩ (by rw[hls];exact Sub.au)
 ·obtain rfl:r=bh:=by have:=of_decide_eq_false h;omega
  refine z_gox
  exact j_out1 rfl rfl (.cons (.here _ _) (.nil _)) (.inl ⟨rfl,hyl,h0,rfl⟩)
end Go.Proofs.YthajpemlpmlefaaGreat
