import Derived.Test.YthajpemlpmlefaaGreatP33
set_option maxHeartbeats 512000000
set_option maxRecDepth 4000
set_option linter.unusedVariables false
set_option linter.unusedSimpArgs false
namespace Go.Proofs.YthajpemlpmlefaaGreat
open Go.RowKit
theorem over_ring(p r:List Value)(l:List Smp)(k:Nat)(h:k<l.length)(v:Smp):Over (p++(flat smpE l++r)) (p.length+k*3) (smpE v) (p++(flat smpE (l.set k v)++r)):=by
 have iO:=over_flat (e:=smpE) l k h v r
 infer_instance
theorem pAll_get(p:Prf):∀n i,i<n→(pAll p n).getD i default=p.l.getD ((p.first+i)%64) default
 | 0,_,h=>by omega
 | n+1,i,h=>by
  have hl:=pAll_len p n
  rw[pAll]
  rcases Nat.lt_or_ge i n with h1|h1
  ·rw[List.getD_eq_getElem?_getD,List.getElem?_append_left (by omega),← List.getD_eq_getElem?_getD]
   exact pAll_get p n i h1
  ·obtain rfl:i=n:=by omega
   rw[List.getD_eq_getElem?_getD,List.getElem?_append_right (by omega),hl,Nat.sub_self]
   rfl
attribute [local irreducible] OJ J HdJ Code.wpIn wpListIn Oper.wpIn bodyPost CallsIn Does
section
variable (g:Nat) (T:TypeId) (p r:List Value) (P:Prf)
theorem padd_any(z:Int)(w:World)(hown:Own [.blk g T (p++prT P r)] w)(hok:PrfOk P):
  Does Tryz.prog 75 [.pointer (some ⟨g,p.length,none⟩),.int .i64 z] [.blk g T (p++prT P r)] w
   (fun v S'=>∃b,v=.bool b∧S'=[.blk g T (p++prT (pAdd P z) r)]):=by
 have hlast:=fun w ho=>plast_any g T p r P w ho hok
 have hall:=hok.all ((P.first+P.n+63)%64) (by omega)
 have hA1:pNear P→pAdd P z=P:=fun h=>by unfold pAdd;rw[if_pos h]
 have hA2:¬pNear P→P.n=64→pAdd P z = { P with l:=P.l.set (((P.first+1)%64+63)%64) ⟨P.x,P.y,z⟩,first:=(P.first+1)%64 }:=fun h h2=>by unfold pAdd;rw[if_neg h,if_pos h2]
 have hA3:¬pNear P→P.n≠64→pAdd P z = { P with l:=P.l.set ((P.first+P.n)%64) ⟨P.x,P.y,z⟩,n:=P.n+1 }:=fun h h2=>by unfold pAdd;rw[if_neg h,if_neg h2]
 unfold pNear at hA1 hA2 hA3
 generalize pAdd P z=R at *
 obtain⟨l,first,m,x,y,gap⟩:=P
 obtain⟨h1,h2,h3,h4,h5,h6⟩:=hok
 dsimp only at h1 h2 h3 h4 h5 h6 hlast hall hA1 hA2 hA3 ⊢
 dsimp only[prT]at hown hlast ⊢
 have iL:LenE (flat smpE l) 192:=⟨by rw[flat_len,h1]⟩
 generalize l.getD ((first+m+63)%64) default=s at *
 obtain⟨sx,sy,sz⟩:=s
 dsimp only at hall hA1 hA2 hA3 ⊢
 dsimp only[smpE]at hlast
 have iA1:∀w0 W H t u a b,MS Tryz.prog w0 W H (.binOp .rem t a b u) [.int .i64 ((first:Int)+1),.int .i64 64] (.int .i64 (((first+1)%64:Nat):Int)) True:=fun _ _ _ _ _ _ _=>msM inferInstance (by omega) (congrArg (Value.int .i64) (by omega))
 have iA2:∀w0 W H t u a b,LV Tryz.prog w0 W H (.binOp .rem t a b u) [.int .i64 ((first:Int)+m),.int .i64 64] (.int .i64 (((first+m)%64:Nat):Int)) True:=fun _ _ _ _ _ _ _=>lvM inferInstance (by omega) (congrArg (Value.int .i64) (by omega))
 have iL2:∀k v,LenE (flat smpE (l.set k v)) 192:=fun k v=>⟨by rw[flat_len,List.length_set,h1]⟩
 have iO:=over_ring p (.int .i64 first::.int .i64 m::.int .i64 x::.int .i64 y::.int .i64 gap::r) l ((first+m)%64) (by omega) ⟨x,y,z⟩
 have iO2:=over_ring p (.int .i64 ((first+1)%64:Nat)::.int .i64 ((m:Int)-1)::.int .i64 x::.int .i64 y::.int .i64 gap::r) l (((first+1)%64+63)%64) (by omega) ⟨x,y,z⟩
 dsimp only[smpE]at iO iO2
 obtain⟨f1,hf1⟩:∃f1,(first+1)%64=f1:=⟨_,rfl⟩
 rw[hf1]at hA2 iO2 iA1
 have hf1b:f1<64:=by omega
 refine does_of Tryz.func75 rfl Tryz.ntmps75 rfl hown (fun _=>?_)
 simp only[slots]
 rcases Nat.eq_zero_or_pos m with h0|h0
 ·subst h0
  rw[hA3 (by omega) (by decide)]
  clear hA1 hA2 hA3
  refine z_tas
  refine c_drx _ [true,true,true,true,true,true,true,true,true,true,true,true,true,true,true,true,true,true,true,true,false,false,false,false,false] [20,21,22,23,24] (Sub.refl _) rfl (by decide) (by decide +kernel) ?_
  refine z_gon
  all_goals exact j_out1 (S':=[.blk g T (p++(flat smpE (l.set ((first+0)%64) ⟨x,y,z⟩)++(.int .i64 first::.int .i64 (((0:Nat):Int)+1)::.int .i64 x::.int .i64 y::.int .i64 gap::r)))]) rfl rfl Sub.au ⟨true,rfl,rfl⟩
 ·by_cases hn:max (max (max (x-sx) (-(x-sx))) (y-sy)) (-(y-sy))<gap
  ·rw[hA1 ⟨h0,hn⟩]
   refine z_tas
   refine lf rfl rfl rfl (S:=[.blk g T (p++(flat smpE l++(.int .i64 first::.int .i64 m::.int .i64 x::.int .i64 y::.int .i64 gap::r)))]) (fun w hw ho=>hlast w ho) ?_
   rintro v S' ⟨rfl,rfl⟩
   refine z_tas
   all_goals first
    | exact j_out1 rfl rfl Sub.au ⟨_,rfl,rfl⟩
    | (exfalso;omega)
  ·by_cases h64:m=64
   ·rw[hA2 (by rintro⟨-,h⟩;exact hn h) h64]
    have iA3:∀w0 W H t u a b,LV Tryz.prog w0 W H (.binOp .rem t a b u) [.int .i64 ((f1:Int)+((m:Int)-1)),.int .i64 64] (.int .i64 (((f1+63)%64:Nat):Int)) True:=fun _ _ _ _ _ _ _=>lvM inferInstance (by omega) (congrArg (Value.int .i64) (by omega))
    have iE64:∀w0 W H t u a b,MS Tryz.prog w0 W H (.binOp .eql t a b u) [.int .i64 (m:Int),.int .i64 64] (.bool true) True:=fun _ _ _ _ _ _ _=>msM inferInstance trivial (congrArg Value.bool (by rw[h64];rfl))
    clear hA1 hA2 hA3
    refine z_tas
    refine lf rfl rfl rfl (S:=[.blk g T (p++(flat smpE l++(.int .i64 first::.int .i64 m::.int .i64 x::.int .i64 y::.int .i64 gap::r)))]) (fun w hw ho=>hlast w ho) ?_
    rintro v S' ⟨rfl,rfl⟩
    refine z_tas
    all_goals try (exfalso;omega)
    refine c_drx _ [true,true,true,true,true,true,true,true,true,true,true,true,true,true,true,true,true,true,true,true,false,false,false,false,false] [20,21,22,23,24] (Sub.refl _) rfl (by decide) (by decide +kernel) ?_
    refine z_gon
    all_goals exact j_out1 (S':=[.blk g T (p++(flat smpE (l.set ((f1+63)%64) ⟨x,y,z⟩)++(.int .i64 f1::.int .i64 ((m:Int)-1+1)::.int .i64 x::.int .i64 y::.int .i64 gap::r)))]) rfl rfl Sub.au ⟨true,rfl,by rw[show (m:Int)-1+1=m by omega]⟩
   ·rw[hA3 (by rintro⟨-,h⟩;exact hn h) h64]
    have iE64:∀w0 W H t u a b,MS Tryz.prog w0 W H (.binOp .eql t a b u) [.int .i64 (m:Int),.int .i64 64] (.bool false) True:=fun _ _ _ _ _ _ _=>msM inferInstance trivial (congrArg Value.bool (by simp;omega))
    clear hA1 hA2 hA3
    refine z_tas
    refine lf rfl rfl rfl (S:=[.blk g T (p++(flat smpE l++(.int .i64 first::.int .i64 m::.int .i64 x::.int .i64 y::.int .i64 gap::r)))]) (fun w hw ho=>hlast w ho) ?_
    rintro v S' ⟨rfl,rfl⟩
    refine z_tas
    all_goals try (exfalso;omega)
    refine c_drx _ [true,true,true,true,true,true,true,true,true,true,true,true,true,true,true,true,true,true,true,true,false,false,false,false,false] [20,21,22,23,24] (Sub.refl _) rfl (by decide) (by decide +kernel) ?_
    refine z_gon
    all_goals exact j_out1 (S':=[.blk g T (p++(flat smpE (l.set ((first+m)%64) ⟨x,y,z⟩)++(.int .i64 first::.int .i64 ((m:Int)+1)::.int .i64 x::.int .i64 y::.int .i64 gap::r)))]) rfl rfl Sub.au ⟨true,rfl,rfl⟩
theorem pall_any(w:World)(hown:Own [.blk g T (p++prT P r)] w)(hok:PrfOk P):
  Does Tryz.prog 176 [.pointer (some ⟨g,p.length,none⟩)] [.blk g T (p++prT P r)] w
   (fun v S'=>∃A c,v=.slice A P.n c∧S'=[.row (.slice A P.n c) 99 3 P.n (flat smpE (pAll P P.n)),.blk g T (p++prT P r)]):=by
 have hlen:=pAll_len P
 have hstep:∀i,pAll P (i+1)=pAll P i++[P.l.getD ((P.first+i)%64) default]:=fun _=>rfl
 obtain⟨l,first,m,x,y,gap⟩:=P
 obtain⟨h1,h2,h3,h4,h5,h6⟩:=hok
 dsimp only at h1 h2 h3 hstep ⊢
 dsimp only[prT]at *
 have iL:LenE (flat smpE l) 192:=⟨by rw[flat_len,h1]⟩
 generalize hpa:pAll ⟨l,first,m,x,y,gap⟩=pa at *
 have h0:pa 0=[]:=by rw[← hpa];rfl
 refine does_of Tryz.func176 rfl Tryz.ntmps176 rfl hown (fun _=>?_)
 simp only[slots]
 refine j_nil (e:=99) (size:=3) ?_
 refine z_tas
 refine c_loop (X:=Nat×Option Addr×Nat) (fun q=>q.1≤m) (fun q=>[(0,.pointer (some ⟨g,p.length,none⟩)),(3,.slice q.2.1 (pa q.1).length q.2.2),(8,.int .i64 m),(9,.int .i64 q.1)])
  (fun q=>[.row (.slice q.2.1 (pa q.1).length q.2.2) 99 3 (pa q.1).length (flat smpE (pa q.1)),.blk g T (p++(flat smpE l++(.int .i64 first::.int .i64 m::.int .i64 x::.int .i64 y::.int .i64 gap::r)))]) (fun q=>m-q.1) (0,none,0) (Nat.zero_le _) ⟨rfl,by simp[look,h0],rfl,rfl,trivial⟩ (by dsimp only;rw[h0];simp only[List.length_nil,flat_nil];exact Sub.au) ?_
 rintro⟨i,A1,c1⟩ hi
 dsimp only at hi ⊢
 rcases Nat.lt_or_ge i m with h|h
 ·have iA2:∀w0 W H t u a b,LV Tryz.prog w0 W H (.binOp .rem t a b u) [.int .i64 ((first:Int)+i),.int .i64 64] (.int .i64 (((first+i)%64:Nat):Int)) True:=fun _ _ _ _ _ _ _=>lvM inferInstance (by omega) (congrArg (Value.int .i64) (by omega))
  have iC:=cut_flat (e:=smpE) l ((first+i)%64) (by omega) (.int .i64 first::.int .i64 m::.int .i64 x::.int .i64 y::.int .i64 gap::r)
  have e:=hstep i
  have hli:=hlen i
  clear hstep hlen
  generalize l.getD ((first+i)%64) default=s at *
  generalize hpi:pa i=L at *
  refine z_tas
  refine c_drx [.blk g T (p++(flat smpE l++(.int .i64 first::.int .i64 m::.int .i64 x::.int .i64 y::.int .i64 gap::r)))] [false,true,true,true,true,true,true,true,true,true,true,true,false,false,false,false] [0,12,13,14,15] Sub.au rfl (by decide) (by decide +kernel) ?_
  refine z_gon
  all_goals
   rename_i A2 c2
   refine c_round (i+1,A2,c2) h (by show m-(i+1)<m-i;omega) ⟨rfl,by simp only[e];rfl,rfl,by simp[look],trivial⟩ ?_
   simp only[e]
   exact Sub.au
 ·obtain rfl:i=m:=by omega
  rw[hlen]
  refine z_tas
  exact j_out1 rfl rfl Sub.au ⟨_,_,rfl,rfl⟩
end
end Go.Proofs.YthajpemlpmlefaaGreat
