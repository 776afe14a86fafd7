import Derived.Test.YtbhchphfmhmabaaGreatP33
set_option maxHeartbeats 512000000
set_option maxRecDepth 4000
set_option linter.unusedVariables false
set_option linter.unusedSimpArgs false
namespace Go.Proofs.YtbhchphfmhmabaaGreat
open Go.RowKit _root_.Go.Proofs.Tryz
theorem aMc(p r:List Value)(l:List cK)(k:Nat)(h:k<l.length)(v:cK):jD (p++(aO bV l++r)) (p.length+k*3) (bV v) (p++(aO bV (l.set k v)++r)):=by
 have iO:=aXl (e:=bV) l k h v r
 infer_instance
theorem aMe(p:kE):∀n i,i<n→(kZ p n).getD i default=p.l.getD ((p.first+i)%64) default
 | 0,_,h=>by omega
 | n+1,i,h=>by
  have hl:=zI p n;rw[kZ];rcases Nat.lt_or_ge i n with h1|h1
  ·rw[List.getD_eq_getElem?_getD,List.getElem?_append_left oo,← List.getD_eq_getElem?_getD];exact aMe p n i h1
  ·obtain rfl:i=n:=oo;rw[List.getD_eq_getElem?_getD,List.getElem?_append_right oo,hl,Nat.sub_self];rfl
attribute [local irreducible] OJ J bM Code.wpIn wpListIn Oper.wpIn bodyPost CallsIn aF
section
variable (g:Nat) (T:TypeId) (p r:List Value) (P:kE)
theorem aY1(z:Int)(w:World)(hown:aZ [.blk g T (p++eE P r)] w)(hok:kU P):
  aF prog 109 [.pointer (some ⟨g,p.length,none⟩),.int .i64 z] [.blk g T (p++eE P r)] w
   (fun v S'=>∃b,v=.bool b∧S'=[.blk g T (p++eE (kB P z) r)]):=by
 have hlast:=fun w ho=>aYa g T p r P w ho hok;have hall:=hok.all ((P.first+P.n+63)%64) oo;have hA1:yB P→kB P z=P:=fun h=>by unfold kB;rw[if_pos h]
 have hA2:¬yB P→P.n=64→kB P z = { P with l:=P.l.set (((P.first+1)%64+63)%64) ⟨P.x,P.y,z⟩,first:=(P.first+1)%64 }:=fun h h2=>by unfold kB;rw[if_neg h,if_pos h2]
 have hA3:¬yB P→P.n≠64→kB P z = { P with l:=P.l.set ((P.first+P.n)%64) ⟨P.x,P.y,z⟩,n:=P.n+1 }:=fun h h2=>by unfold kB;rw[if_neg h,if_neg h2]
 unfold yB at hA1 hA2 hA3;generalize kB P z=R at *;obtain⟨l,first,m,x,y,gap⟩:=P;obtain⟨h1,h2,h3,h4,h5,h6⟩:=hok;dsimp only at h1 h2 h3 h4 h5 h6 hlast hall hA1 hA2 hA3 ⊢;dsimp only[eE]at hown hlast ⊢;have iL:fF (aO bV l) 192:=⟨by rw[kJ,h1]⟩;generalize l.getD ((first+m+63)%64) default=s at *;obtain⟨sx,sy,sz⟩:=s;dsimp only at hall hA1 hA2 hA3 ⊢;dsimp only[bV]at hlast;have iA1:∀w0 W H t u a b,MS prog w0 W H (.binOp .rem t a b u) [.int .i64 ((first:Int)+1),.int .i64 64] (.int .i64 (((first+1)%64:Nat):Int)) True:=fun _ _ _ _ _ _ _=>cD inferInstance oo (congrArg (Value.int .i64) oo);have iA2:∀w0 W H t u a b,LV prog w0 W H (.binOp .rem t a b u) [.int .i64 ((first:Int)+m),.int .i64 64] (.int .i64 (((first+m)%64:Nat):Int)) True:=fun _ _ _ _ _ _ _=>gH inferInstance oo (congrArg (Value.int .i64) oo);have iL2:∀k v,fF (aO bV (l.set k v)) 192:=fun k v=>⟨by rw[kJ,List.length_set,h1]⟩;have iO:=aMc p (.int .i64 first::.int .i64 m::.int .i64 x::.int .i64 y::.int .i64 gap::r) l ((first+m)%64) oo ⟨x,y,z⟩;have iO2:=aMc p (.int .i64 ((first+1)%64:Nat)::.int .i64 ((m:Int)-1)::.int .i64 x::.int .i64 y::.int .i64 gap::r) l (((first+1)%64+63)%64) oo ⟨x,y,z⟩;dsimp only[bV]at iO iO2;obtain⟨f1,hf1⟩:∃f1,(first+1)%64=f1:=⟨_,rfl⟩;rw[hf1]at hA2 iO2 iA1;have hf1b:f1<64:=oo;refine aJ func109 rfl ntmps109 rfl hown (fun _=>?_);simp only[aG];rcases Nat.eq_zero_or_pos m with h0|h0
 ·subst h0;rw[hA3 oo od];clear hA1 hA2 hA3;refine aB;refine dM _ [true,true,true,true,true,true,true,true,true,true,true,true,true,true,true,true,true,true,true,true,false,false,false,false,false] [20,21,22,23,24] (aA.refl _) rfl od bD ?_;refine xA;all_goals exact aM (S':=[.blk g T (p++(aO bV (l.set ((first+0)%64) ⟨x,y,z⟩)++(.int .i64 first::.int .i64 (((0:Nat):Int)+1)::.int .i64 x::.int .i64 y::.int .i64 gap::r)))]) rfl rfl aA.au ⟨true,rfl,rfl⟩
 ·by_cases hn:max (max (max (x-sx) (-(x-sx))) (y-sy)) (-(y-sy))<gap
  ·rw[hA1 ⟨h0,hn⟩];refine aB;refine lf rfl rfl rfl (S:=[.blk g T (p++(aO bV l++(.int .i64 first::.int .i64 m::.int .i64 x::.int .i64 y::.int .i64 gap::r)))]) (fun w hw ho=>hlast w ho) ?_;rintro v S' ⟨rfl,rfl⟩;refine aB;all_goals first
    | exact aM rfl rfl aA.au ⟨_,rfl,rfl⟩
    | (exfalso;omega)
  ·by_cases h64:m=64
   ·rw[hA2 (by rintro⟨-,h⟩;exact hn h) h64];have iA3:∀w0 W H t u a b,LV prog w0 W H (.binOp .rem t a b u) [.int .i64 ((f1:Int)+((m:Int)-1)),.int .i64 64] (.int .i64 (((f1+63)%64:Nat):Int)) True:=fun _ _ _ _ _ _ _=>gH inferInstance oo (congrArg (Value.int .i64) oo);have iE64:∀w0 W H t u a b,MS prog w0 W H (.binOp .eql t a b u) [.int .i64 (m:Int),.int .i64 64] (.bool true) True:=fun _ _ _ _ _ _ _=>cD inferInstance trivial (congrArg Value.bool (by rw[h64];rfl));clear hA1 hA2 hA3;refine aB;refine lf rfl rfl rfl (S:=[.blk g T (p++(aO bV l++(.int .i64 first::.int .i64 m::.int .i64 x::.int .i64 y::.int .i64 gap::r)))]) (fun w hw ho=>hlast w ho) ?_;rintro v S' ⟨rfl,rfl⟩;refine aB;all_goals try (exfalso;omega)
    refine dM _ [true,true,true,true,true,true,true,true,true,true,true,true,true,true,true,true,true,true,true,true,false,false,false,false,false] [20,21,22,23,24] (aA.refl _) rfl od bD ?_;refine xA;all_goals exact aM (S':=[.blk g T (p++(aO bV (l.set ((f1+63)%64) ⟨x,y,z⟩)++(.int .i64 f1::.int .i64 ((m:Int)-1+1)::.int .i64 x::.int .i64 y::.int .i64 gap::r)))]) rfl rfl aA.au ⟨true,rfl,by rw[show (m:Int)-1+1=m by omega]⟩
   ·rw[hA3 (by rintro⟨-,h⟩;exact hn h) h64];have iE64:∀w0 W H t u a b,MS prog w0 W H (.binOp .eql t a b u) [.int .i64 (m:Int),.int .i64 64] (.bool false) True:=fun _ _ _ _ _ _ _=>cD inferInstance trivial (congrArg Value.bool (by simp;omega));clear hA1 hA2 hA3;refine aB;refine lf rfl rfl rfl (S:=[.blk g T (p++(aO bV l++(.int .i64 first::.int .i64 m::.int .i64 x::.int .i64 y::.int .i64 gap::r)))]) (fun w hw ho=>hlast w ho) ?_;rintro v S' ⟨rfl,rfl⟩;refine aB;all_goals try (exfalso;omega)
    refine dM _ [true,true,true,true,true,true,true,true,true,true,true,true,true,true,true,true,true,true,true,true,false,false,false,false,false] [20,21,22,23,24] (aA.refl _) rfl od bD ?_;refine xA;all_goals exact aM (S':=[.blk g T (p++(aO bV (l.set ((first+m)%64) ⟨x,y,z⟩)++(.int .i64 first::.int .i64 ((m:Int)+1)::.int .i64 x::.int .i64 y::.int .i64 gap::r)))]) rfl rfl aA.au ⟨true,rfl,rfl⟩
theorem aY2(w:World)(hown:aZ [.blk g T (p++eE P r)] w)(hok:kU P):
  aF prog 188 [.pointer (some ⟨g,p.length,none⟩)] [.blk g T (p++eE P r)] w
   (fun v S'=>∃A c,v=.slice A P.n c∧S'=[.row (.slice A P.n c) 110 3 P.n (aO bV (kZ P P.n)),.blk g T (p++eE P r)]):=by
 have hlen:=zI P;have hstep:∀i,kZ P (i+1)=kZ P i++[P.l.getD ((P.first+i)%64) default]:=fun _=>rfl;obtain⟨l,first,m,x,y,gap⟩:=P;obtain⟨h1,h2,h3,h4,h5,h6⟩:=hok;dsimp only at h1 h2 h3 hstep ⊢;dsimp only[eE]at *;have iL:fF (aO bV l) 192:=⟨by rw[kJ,h1]⟩;generalize hpa:kZ ⟨l,first,m,x,y,gap⟩=pa at *;have h0:pa 0=[]:=by rw[← hpa];rfl
 refine aJ func188 rfl ntmps188 rfl hown (fun _=>?_);simp only[aG];refine dH (e:=110) (size:=3) ?_;refine aB;refine cG (X:=Nat×Option Addr×Nat) (fun q=>q.1≤m) (fun q=>[(0,.pointer (some ⟨g,p.length,none⟩)),(3,.slice q.2.1 (pa q.1).length q.2.2),(8,.int .i64 m),(9,.int .i64 q.1)])
  (fun q=>[.row (.slice q.2.1 (pa q.1).length q.2.2) 110 3 (pa q.1).length (aO bV (pa q.1)),.blk g T (p++(aO bV l++(.int .i64 first::.int .i64 m::.int .i64 x::.int .i64 y::.int .i64 gap::r)))]) (fun q=>m-q.1) (0,none,0) (Nat.zero_le _) ⟨rfl,by simp[aI,h0],rfl,rfl,trivial⟩ (by dsimp only;rw[h0];simp only[List.length_nil,aTi];exact aA.au) ?_
 rintro⟨i,A1,c1⟩ hi;dsimp only at hi ⊢;rcases Nat.lt_or_ge i m with h|h
 ·have iA2:∀w0 W H t u a b,LV prog w0 W H (.binOp .rem t a b u) [.int .i64 ((first:Int)+i),.int .i64 64] (.int .i64 (((first+i)%64:Nat):Int)) True:=fun _ _ _ _ _ _ _=>gH inferInstance oo (congrArg (Value.int .i64) oo);have iC:=aJp (e:=bV) l ((first+i)%64) oo (.int .i64 first::.int .i64 m::.int .i64 x::.int .i64 y::.int .i64 gap::r);have e:=hstep i;have hli:=hlen i;clear hstep hlen;generalize l.getD ((first+i)%64) default=s at *;generalize hpi:pa i=L at *;refine aB;refine dM [.blk g T (p++(aO bV l++(.int .i64 first::.int .i64 m::.int .i64 x::.int .i64 y::.int .i64 gap::r)))] [false,true,true,true,true,true,true,true,true,true,true,true,false,false,false,false] [0,12,13,14,15] aA.au rfl od bD ?_;refine xA;all_goals
   rename_i A2 c2;refine aR (i+1,A2,c2) h (by show m-(i+1)<m-i;omega) ⟨rfl,by simp only[e];rfl,rfl,by simp[aI],trivial⟩ ?_;simp only[e];exact aA.au
 ·obtain rfl:i=m:=oo;rw[hlen];refine aB;exact aM rfl rfl aA.au ⟨_,_,rfl,rfl⟩
end
