import Derived.Test.YthajpemlpmlefaaGreatP11
set_option maxHeartbeats 512000000
set_option maxRecDepth 4000
set_option linter.unusedVariables false
set_option linter.unusedSimpArgs false
namespace Go.Proofs.YthajpemlpmlefaaGreat
open Go.RowKit
theorem lay_get(z:List Int)(l:Nat)(ys:List Int)(h:l+ys.length≤z.length)(p:Nat):(lay z l ys).getD p 0=if l≤p∧p<l+ys.length then ys.getD (p-l) 0 else z.getD p 0:=by
 unfold lay
 simp only[List.getD_eq_getElem?_getD]
 rw[List.append_assoc,List.getElem?_append,List.length_take]
 split
 ·rw[if_neg (by omega),List.getElem?_take_of_lt (by omega)]
 ·rw[List.getElem?_append]
  split
  ·rw[if_pos (by omega),show p-min l z.length=p-l from by omega]
  ·rw[if_neg (by omega),List.getElem?_drop]
   congr 2
   omega
theorem cut_part{z:List Int}{W H x y bw:Nat}{bh:Nat}(hz:z.length=W*H)(hx:x+bw≤W)(hy:y+bh≤H){r:Nat}(hr:r<bh):∀n,r<n→n≤bh→((cutTo z W x y bw n).drop (r*bw)).take bw=rowAt z W x y bw r
 | 0,h,_=>absurd h (by omega)
 | n+1,h,hn=>by
  have hl:=cutTo_len hz hx hy n (by omega)
  have hra:=rowAt_len hz hx hy hr
  rw[cutTo]
  rcases Nat.lt_or_ge r n with h1|h1
  ·have h2:(r+1)*bw≤n*bw:=Nat.mul_le_mul_right _ h1
   rw[Nat.add_mul,Nat.one_mul]at h2
   rw[List.drop_append_of_le_length (by omega),List.take_append_of_le_length (by rw[List.length_drop];omega)]
   exact cut_part hz hx hy hr n h1 (by omega)
  ·obtain rfl:r=n:=by omega
   rw[← hl,List.drop_append_of_le_length (Nat.le_refl _),List.drop_length,List.nil_append]
   exact List.take_of_length_le (by omega)
theorem lay_keep{z g:List Int}{W H x y bw bh:Nat}(hz:z.length=W*H)(hg:g.length=W*H)(hx:x+bw≤W)(hy:y+bh≤H){p:Nat}: ∀R,R≤bh→(g.getD p 0=z.getD p 0∨∃r,r<R∧(y+r)*W+x≤p∧p<(y+r)*W+x+bw)→(layTo (cutTo z W x y bw bh) W x y bw g R).getD p 0=z.getD p 0
 | 0,_,h=>by
  rcases h with h | ⟨r,hr,-⟩
  ·exact h
  ·omega
 | R+1,hR,h=>by
  have hcl:(cutTo z W x y bw bh).length=bw*bh:=by rw[cutTo_len hz hx hy bh (Nat.le_refl _),Nat.mul_comm]
  have hll:=layTo_len hg hx hy hcl R (by omega)
  have hra:=rowAt_len hz hx hy (by omega:R<bh)
  have hle:=at_le hx hy (by omega:R<bh)
  rw[layTo,cut_part hz hx hy (by omega:R<bh) bh (by omega) (Nat.le_refl _),lay_get _ _ _ (by rw[hra,hll];omega),hra]
  split
  ·rename_i hp
   unfold rowAt
   simp only[List.getD_eq_getElem?_getD]
   rw[List.getElem?_take_of_lt (by omega),List.getElem?_drop]
   congr 2
   omega
  ·rename_i hp
   refine lay_keep hz hg hx hy R (by omega) ?_
   rcases h with h | ⟨r,hr,hp1,hp2⟩
   ·exact .inl h
   ·rcases Nat.lt_or_ge r R with h1|h1
    ·exact .inr ⟨r,h1,hp1,hp2⟩
    ·obtain rfl:r=R:=by omega
     exact absurd ⟨hp1,hp2⟩ hp
def layF(W H:Nat)(z g:List Int)(i k:Nat):List Int:=layTo (cutF W H z i k) W (boxF W H i k).1 (boxF W H i k).2.1 (boxF W H i k).2.2.1 g (boxF W H i k).2.2.2
theorem box_at{W H i k:Nat}(hi:i<cntF W)(hk:k<cntF H):boxF W H i k=(16*i,16*k,min 16 (W-16*i),min 16 (H-16*k)):=by
 unfold boxF
 rw[if_pos ((boxIs_iff ..).2 (by omega)),Int.toNat_natCast,Int.toNat_natCast]
theorem box_size{W H i k:Nat}(hi:i<cntF W)(hk:k<cntF H){z:List Int}(hz:z.length=W*H):(cutF W H z i k).length=(boxF W H i k).2.2.1*(boxF W H i k).2.2.2∧0<(boxF W H i k).2.2.1:=by
 have hbx:=boxF_in W H i k
 refine⟨?_,?_⟩
 ·unfold cutF
  rw[cutTo_len hz hbx.1 hbx.2.1 _ (Nat.le_refl _),Nat.mul_comm]
 ·rw[box_at hi hk]
  unfold cntF at hi
  simp only
  omega
end Go.Proofs.YthajpemlpmlefaaGreat
