import Derived.Test.YtbhchphfmhmabaaGreatP11
set_option maxHeartbeats 512000000
set_option maxRecDepth 4000
set_option linter.unusedVariables false
set_option linter.unusedSimpArgs false
namespace Go.Proofs.YtbhchphfmhmabaaGreat
open Go.RowKit
theorem aVf(z:List Int)(l:Nat)(ys:List Int)(h:l+ys.length≤z.length)(p:Nat):(lay z l ys).getD p 0=if l≤p∧p<l+ys.length then ys.getD (p-l) 0 else z.getD p 0:=by
 unfold lay;simp only[List.getD_eq_getElem?_getD];rw[List.append_assoc,List.getElem?_append,List.length_take];split
 ·rw[if_neg oo,List.getElem?_take_of_lt oo]
 ·rw[List.getElem?_append];split
  ·rw[if_pos oo,show p-min l z.length=p-l from by omega]
  ·rw[if_neg oo,List.getElem?_drop];congr 2;omega
theorem aEw{z:List Int}{W H x y bw:Nat}{bh:Nat}(hz:z.length=W*H)(hx:x+bw≤W)(hy:y+bh≤H){r:Nat}(hr:r<bh):∀n,r<n→n≤bh→((lF z W x y bw n).drop (r*bw)).take bw=yD z W x y bw r
 | 0,h,_=>absurd h oo
 | n+1,h,hn=>by
  have hl:=yX hz hx hy n oo;have hra:=aH4 hz hx hy hr;rw[lF];rcases Nat.lt_or_ge r n with h1|h1
  ·have h2:(r+1)*bw≤n*bw:=Nat.mul_le_mul_right _ h1;rw[Nat.add_mul,Nat.one_mul]at h2;rw[List.drop_append_of_le_length oo,List.take_append_of_le_length (by rw[List.length_drop];omega)];exact aEw hz hx hy hr n h1 oo
  ·obtain rfl:r=n:=oo;rw[← hl,List.drop_append_of_le_length (Nat.le_refl _),List.drop_length,List.nil_append];exact List.take_of_length_le oo
theorem aL6{z g:List Int}{W H x y bw bh:Nat}(hz:z.length=W*H)(hg:g.length=W*H)(hx:x+bw≤W)(hy:y+bh≤H){p:Nat}: ∀R,R≤bh→(g.getD p 0=z.getD p 0∨∃r,r<R∧(y+r)*W+x≤p∧p<(y+r)*W+x+bw)→(pV (lF z W x y bw bh) W x y bw g R).getD p 0=z.getD p 0
 | 0,_,h=>by
  rcases h with h | ⟨r,hr,-⟩
  ·exact h
  ·omega
 | R+1,hR,h=>by
  have hcl:(lF z W x y bw bh).length=bw*bh:=by rw[yX hz hx hy bh (Nat.le_refl _),Nat.mul_comm]
  have hll:=aAp hg hx hy hcl R oo;have hra:=aH4 hz hx hy (by omega:R<bh);have hle:=aA6 hx hy (by omega:R<bh);rw[pV,aEw hz hx hy (by omega:R<bh) bh oo (Nat.le_refl _),aVf _ _ _ (by rw[hra,hll];omega),hra];split
  ·rename_i hp;unfold yD;simp only[List.getD_eq_getElem?_getD];rw[List.getElem?_take_of_lt oo,List.getElem?_drop];congr 2;omega
  ·rename_i hp;refine aL6 hz hg hx hy R oo ?_;rcases h with h | ⟨r,hr,hp1,hp2⟩
   ·exact .inl h
   ·rcases Nat.lt_or_ge r R with h1|h1
    ·exact .inr ⟨r,h1,hp1,hp2⟩
    ·obtain rfl:r=R:=oo;exact absurd ⟨hp1,hp2⟩ hp
def aL2(W H:Nat)(z g:List Int)(i k:Nat):List Int:=pV (qS W H z i k) W (cU W H i k).1 (cU W H i k).2.1 (cU W H i k).2.2.1 g (cU W H i k).2.2.2
theorem aBs{W H i k:Nat}(hi:i<bC W)(hk:k<bC H):cU W H i k=(16*i,16*k,min 16 (W-16*i),min 16 (H-16*k)):=by unfold cU;rw[if_pos ((aEj ..).2 oo),Int.toNat_natCast,Int.toNat_natCast]
theorem aQq{W H i k:Nat}(hi:i<bC W)(hk:k<bC H){z:List Int}(hz:z.length=W*H):(qS W H z i k).length=(cU W H i k).2.2.1*(cU W H i k).2.2.2∧0<(cU W H i k).2.2.1:=by
 have hbx:=vV W H i k;refine⟨?_,?_⟩
 ·unfold qS;rw[yX hz hbx.1 hbx.2.1 _ (Nat.le_refl _),Nat.mul_comm]
 ·rw[aBs hi hk];unfold bC at hi;simp only;omega
