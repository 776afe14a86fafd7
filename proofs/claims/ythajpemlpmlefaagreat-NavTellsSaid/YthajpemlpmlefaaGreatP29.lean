import Derived.Test.YthajpemlpmlefaaGreatP27
set_option maxHeartbeats 512000000
set_option maxRecDepth 4000
set_option linter.unusedVariables false
set_option linter.unusedSimpArgs false
namespace Go.Proofs.YthajpemlpmlefaaGreat
open Go.RowKit
theorem pk_spec{p:List Int}(hp:Pos30 p):∀n,n≤p.length→((pkTo p n).1 = -1∧(pkTo p n).2=0∧∀i,i<n→p.getD i 0=0)∨∃k:Nat,k<n∧(pkTo p n).1=(k:Int)∧(pkTo p n).2=p.getD k 0∧0<p.getD k 0∧∀i,i<n→p.getD i 0≤p.getD k 0
 | 0,_=>.inl ⟨rfl,rfl,fun i hi=>absurd hi (Nat.not_lt_zero i)⟩
 | n+1,hn=>by
  have h1:=hp n (by omega)
  rw[pkTo]
  rcases pk_spec hp n (by omega) with⟨a,b,c⟩ | ⟨k,hk,a,b,c,d⟩
  ·split
   ·rename_i h
    refine .inr ⟨n,by omega,rfl,rfl,by omega,fun i hi=>?_⟩
    rcases Nat.lt_or_ge i n with h2|h2
    ·have:=c i h2;omega
    ·obtain rfl:i=n:=by omega
     exact Int.le_refl _
   ·rename_i h
    refine .inl ⟨a,b,fun i hi=>?_⟩
    rcases Nat.lt_or_ge i n with h2|h2
    ·exact c i h2
    ·obtain rfl:i=n:=by omega
     omega
  ·split
   ·rename_i h
    refine .inr ⟨n,by omega,rfl,rfl,by omega,fun i hi=>?_⟩
    rcases Nat.lt_or_ge i n with h2|h2
    ·have:=d i h2;omega
    ·obtain rfl:i=n:=by omega
     exact Int.le_refl _
   ·rename_i h
    refine .inr ⟨k,by omega,a,b,c,fun i hi=>?_⟩
    rcases Nat.lt_or_ge i n with h2|h2
    ·exact d i h2
    ·obtain rfl:i=n:=by omega
     omega
theorem pk_top{p:List Int}(h:WholeP p)(h0:0<p.length)(h1:p.length≤4096):∃k:Nat,k<p.length∧(pkTo p p.length).1=(k:Int)∧262142<p.getD k 0∧∀i,i<p.length→p.getD i 0≤p.getD k 0:=by
 obtain⟨i,hi,hb⟩:=whole_some h h0 h1
 rcases pk_spec h.1 p.length (Nat.le_refl _) with⟨-,-,c⟩ | ⟨k,hk,a,b,c,d⟩
 ·have:=c i hi;omega
 ·exact⟨k,hk,a,by have:=d i hi;omega,d⟩
theorem at_col{W r c:Nat}(hc:c<W):colI (W:Int) (r*W+c)=(c:Int)∧rowI (W:Int) (r*W+c)=(r:Int):=by
 have h1:(r*W+c)%W=c:=by rw[Nat.mul_comm,Nat.mul_add_mod,Nat.mod_eq_of_lt hc]
 have h2:(r*W+c)/W=r:=by rw[Nat.mul_comm,Nat.mul_add_div (by omega),Nat.div_eq_of_lt hc,Nat.add_zero]
 unfold colI rowI
 rw[← Int.natCast_emod,← Int.natCast_ediv,h1,h2]
 exact⟨rfl,rfl⟩
theorem col_at{W:Nat}(hW:0<W)(i:Nat):colI (W:Int) i=((i%W:Nat):Int)∧rowI (W:Int) i=((i/W:Nat):Int)∧i/W*W+i%W=i∧i%W<W:=by
 refine⟨?_,?_,?_,Nat.mod_lt _ hW⟩
 ·unfold colI;rw[Int.natCast_emod]
 ·unfold rowI;rw[Int.natCast_ediv]
 ·rw[Nat.mul_comm];exact Nat.div_add_mod i W
theorem row_lt{W H i:Nat}(h:i<W*H):i/W<H:=Nat.div_lt_of_lt_mul h
theorem cell_lt{W H r c:Nat}(hr:r<H)(hc:c<W):r*W+c<W*H:=by
 have:=Nat.mul_le_mul_right W (show r+1≤H from hr)
 rw[Nat.add_mul,Nat.one_mul,Nat.mul_comm H]at this
 omega
theorem made_ok{w h x y st:Int}{p:List Int}(hs:sidesOk w h st)(hl:(p.length:Int)=w*h)(hp:Pos30 p)(hz:0<sumL p p.length):GrdOk (normG ⟨w,h,x,y,st,p⟩):=by
 refine⟨hs,?_,normL_whole hp hz⟩
 show ((normL p).length:Int)=w*h
 rw[normL_len]
 exact hl
theorem nat_sides{g:Grd}(hg:GrdOk g):∃W H:Nat,g.w=(W:Int)∧g.h=(H:Int)∧(1≤W∧W≤64)∧(1≤H∧H≤64)∧g.p.length=W*H:=by
 obtain⟨⟨h1,h2,-⟩,h3,-⟩:=hg
 refine⟨g.w.toNat,g.h.toNat,by omega,by omega,by omega,by omega,?_⟩
 have e1:g.w=((g.w.toNat:Nat):Int):=by omega
 have e2:g.h=((g.h.toNat:Nat):Int):=by omega
 rw[e1,e2,← Int.natCast_mul]at h3
 omega
theorem cut_ok{g:Grd}(hg:GrdOk g):Pos30 (cutG g (centN g).x (centN g).y (centN g).w (centN g).h).p∧0<sumL (cutG g (centN g).x (centN g).y (centN g).w (centN g).h).p (cutG g (centN g).x (centN g).y (centN g).w (centN g).h).p.length∧GrdOk (normG (cutG g (centN g).x (centN g).y (centN g).w (centN g).h)):=by
 obtain⟨hl0,hl1⟩:=hg.len
 obtain⟨W,H,hW,hH,hW1,hH1,hn⟩:=nat_sides hg
 obtain⟨k,hk,e,hb,-⟩:=pk_top hg.2.2 hl0 hl1
 obtain⟨hs,-,hwh⟩:=hg
 obtain⟨w,hw⟩:∃w,min W 16=w:=⟨_,rfl⟩
 obtain⟨h,hh⟩:∃h,min H 16=h:=⟨_,rfl⟩
 have ew:min g.w 16=(w:Int):=by omega
 have eh:min g.h 16=(h:Int):=by omega
 obtain⟨c1,c2,c3,c4⟩:=col_at (W:=W) (by omega) k
 have c5:k/W<H:=row_lt (by omega)
 obtain⟨u,hu⟩:∃u,k%W=u:=⟨_,rfl⟩
 obtain⟨v,hv⟩:∃v,k/W=v:=⟨_,rfl⟩
 rw[hu]at c1 c3 c4
 rw[hv]at c2 c3 c5
 have ec:centN g=⟨3,(u:Int)-(w:Int)/2,(v:Int)-(h:Int)/2,w,h⟩:=by
  unfold centN
  rw[e,ew,eh,hW,show (max ((k:Nat):Int) 0).toNat=k by omega]
  dsimp only
  rw[c1,c2]
 rw[ec]
 dsimp only
 have ewh:((w:Int)*(h:Int)).toNat=w*h:=by rw[← Int.natCast_mul,Int.toNat_natCast]
 have hlen:(cutG g ((u:Int)-(w:Int)/2) ((v:Int)-(h:Int)/2) w h).p.length=w*h:=by
  unfold cutG
  dsimp only
  rw[tab_len,ewh]
 have hpos:Pos30 (cutG g ((u:Int)-(w:Int)/2) ((v:Int)-(h:Int)/2) w h).p:=fun i hi=>by
  rw[hlen]at hi
  unfold cutG
  dsimp only
  rw[tab_get _ (by rw[ewh];exact hi)]
  split
  ·exact get_in hwh.1 _
  ·decide
 have hone:0<(cutG g ((u:Int)-(w:Int)/2) ((v:Int)-(h:Int)/2) w h).p.getD (h/2*w+w/2) 0:=by
  have hlt:=cell_lt (W:=w) (H:=h) (r:=h/2) (c:=w/2) (by omega) (by omega)
  obtain⟨d1,d2⟩:=at_col (W:=w) (r:=h/2) (c:=w/2) (by omega)
  unfold cutG
  dsimp only
  rw[tab_get _ (by rw[ewh];exact hlt),d1,d2,if_pos (by omega)]
  have ei:(((v:Int)-(h:Int)/2+((h/2:Nat):Int))*g.w+((u:Int)-(w:Int)/2+((w/2:Nat):Int))).toNat=k:=by
   rw[hW,show (v:Int)-(h:Int)/2+((h/2:Nat):Int)=(v:Int) by omega,show (u:Int)-(w:Int)/2+((w/2:Nat):Int)=(u:Int) by omega,← Int.natCast_mul,← Int.natCast_add,c3,Int.toNat_natCast]
  rw[ei]
  omega
 have hsum:=sumL_pos hpos (i:=h/2*w+w/2) (by rw[hlen];exact cell_lt (by omega) (by omega)) hone
 refine⟨hpos,hsum,made_ok ?_ ?_ hpos hsum⟩
 ·obtain⟨a1,a2,a3⟩:=hs
  exact⟨by omega,by omega,a3⟩
 ·exact(congrArg Nat.cast hlen).trans (Int.natCast_mul w h)
theorem split_ok{g:Grd}(hg:GrdOk g)(ho:splitOk g):Pos30 (splitG g).p∧0<sumL (splitG g).p (splitG g).p.length∧GrdOk (normG (splitG g)):=by
 obtain⟨hl0,hl1⟩:=hg.len
 obtain⟨W,H,hW,hH,hW1,hH1,hn⟩:=nat_sides hg
 obtain⟨k,hk,hb⟩:=whole_some hg.2.2 hl0 hl1
 obtain⟨hs,-,hwh⟩:=hg
 obtain⟨o1,o2,o3,o4⟩:=ho
 obtain⟨c1,c2,c3,c4⟩:=col_at (W:=W) (by omega) k
 have c5:k/W<H:=row_lt (by omega)
 have hlen:(splitG g).p.length=4*g.p.length:=tab_len _ _
 have e2:2*g.w=((2*W:Nat):Int):=by omega
 have hpos:Pos30 (splitG g).p:=fun i hi=>by
  rw[hlen]at hi
  unfold splitG
  dsimp only
  rw[tab_get _ hi]
  have:=get_in hwh.1 (rowI (2*g.w) i/2*g.w+colI (2*g.w) i/2).toNat
  omega
 have hlt:2*(k/W)*(2*W)+2*(k%W)<4*g.p.length:=by
  have:=cell_lt (W:=2*W) (H:=2*H) (r:=2*(k/W)) (c:=2*(k%W)) (by omega) (by omega)
  have e:2*W*(2*H)=4*(W*H):=by rw[Nat.mul_mul_mul_comm]
  omega
 have hone:0<(splitG g).p.getD (2*(k/W)*(2*W)+2*(k%W)) 0:=by
  obtain⟨d1,d2⟩:=at_col (W:=2*W) (r:=2*(k/W)) (c:=2*(k%W)) (by omega)
  unfold splitG
  dsimp only
  rw[tab_get _ hlt,e2,d1,d2,hW]
  have ei:(((2*(k/W):Nat):Int)/2*(W:Int)+((2*(k%W):Nat):Int)/2).toNat=k:=by
   rw[show ((2*(k/W):Nat):Int)/2=((k/W:Nat):Int) by omega,show ((2*(k%W):Nat):Int)/2=((k%W:Nat):Int) by omega,← Int.natCast_mul,← Int.natCast_add,c3,Int.toNat_natCast]
  rw[ei]
  omega
 have hsum:=sumL_pos hpos (i:=2*(k/W)*(2*W)+2*(k%W)) (by rw[hlen];exact hlt) hone
 refine⟨hpos,hsum,made_ok ?_ ?_ hpos hsum⟩
 ·obtain⟨a1,a2,a3⟩:=hs
  exact⟨by omega,by omega,by omega,by omega⟩
 ·show ((splitG g).p.length:Int)=_
  rw[hlen,hn,show 4*(W*H)=2*W*(2*H) by rw[Nat.mul_mul_mul_comm],Int.natCast_mul]
  show ((2*W:Nat):Int)*((2*H:Nat):Int)=2*g.w*(2*g.h)
  rw[e2,show 2*g.h=((2*H:Nat):Int) by omega]
theorem set_get(l:List Int)(j:Nat)(v:Int)(hj:j<l.length)(n:Nat):(l.set j v).getD n 0=if j=n then v else l.getD n 0:=by
 rw[List.getD_eq_getElem?_getD,List.getElem?_set]
 split
 ·rfl
 ·rw[← List.getD_eq_getElem?_getD]
theorem sumL_set(l:List Int)(j:Nat)(v:Int)(hj:j<l.length):∀n,n≤l.length→sumL (l.set j v) n=sumL l n+if j<n then v-l.getD j 0 else 0
 | 0,_=>by simp[sumL]
 | n+1,hn=>by
  rw[sumL,sumL,sumL_set l j v hj n (by omega),set_get l j v hj]
  by_cases e:j=n
  ·subst e
   rw[if_pos rfl,if_neg (by omega),if_pos (by omega)]
   omega
  ·rw[if_neg e]
   by_cases h:j<n
   ·rw[if_pos h,if_pos (by omega)];omega
   ·rw[if_neg h,if_neg (by omega)];omega
theorem sumL_zero:∀n m,sumL (List.replicate m 0) n=0
 | 0,_=>rfl
 | n+1,m=>by
  rw[sumL,sumL_zero n m,List.getD_eq_getElem?_getD,List.getElem?_replicate]
  split<;>rfl
theorem sumL_ge0{l:List Int}(h:∀i,i<l.length→0≤l.getD i 0){i:Nat}: ∀n,n≤l.length→i<n→0≤l.getD i 0∧l.getD i 0≤sumL l n
 | n+1,hn,hi=>by
  have h1:=h n (by omega)
  have h0:0≤sumL l n:=by
   have key:∀m,m≤l.length→0≤sumL l m:=by
    intro m
    induction m with
    | zero=>intro _;exact Int.le_refl _
    | succ m ih=>intro hm;have:=ih (by omega);have:=h m (by omega);rw[sumL];omega
   exact key n (by omega)
  rw[sumL]
  rcases Nat.lt_or_ge i n with h2|h2
  ·have:=sumL_ge0 h n (by omega) h2
   omega
  ·obtain rfl:i=n:=by omega
   omega
theorem joinTo_len(g:Grd):∀i,(joinTo g i).length=g.p.length/4
 | 0=>List.length_replicate ..
 | i+1=>by rw[joinTo,List.length_set,joinTo_len g i]
theorem join_ix{g:Grd}{W H:Nat}(hW:g.w=((2*W:Nat):Int))(hn:g.p.length=2*W*(2*H))(hW1:0<W){i:Nat}(hi:i<g.p.length):(rowI g.w i/2*(g.w/2)+colI g.w i/2).toNat=i/(2*W)/2*W+i%(2*W)/2∧i/(2*W)/2*W+i%(2*W)/2<g.p.length/4:=by
 obtain⟨c1,c2,c3,c4⟩:=col_at (W:=2*W) (by omega) i
 have c5:i/(2*W)<2*H:=row_lt (by omega)
 rw[hW,c1,c2]
 have e4:g.p.length/4=W*H:=by
  have e:2*W*(2*H)=4*(W*H):=by rw[Nat.mul_mul_mul_comm]
  omega
 rw[e4]
 generalize i/(2*W)=r at *
 generalize i%(2*W)=c at *
 refine⟨?_,cell_lt (by omega) (by omega)⟩
 rw[show ((2*W:Nat):Int)/2=(W:Int) by omega,show (r:Int)/2=((r/2:Nat):Int) by omega,show (c:Int)/2=((c/2:Nat):Int) by omega,← Int.natCast_mul,← Int.natCast_add,Int.toNat_natCast]
theorem joinTo_sum{g:Grd}{W H:Nat}(hW:g.w=((2*W:Nat):Int))(hn:g.p.length=2*W*(2*H))(hW1:0<W)(hp:Pos30 g.p):∀i,i≤g.p.length→sumL (joinTo g i) (g.p.length/4)=sumL g.p i∧∀j,0≤(joinTo g i).getD j 0
 | 0,_=>by
  rw[joinTo,sumL_zero]
  refine⟨rfl,fun j=>?_⟩
  rw[List.getD_eq_getElem?_getD,List.getElem?_replicate]
  split<;>exact Int.le_refl _
 | i+1,h=>by
  obtain⟨h1,h2⟩:=joinTo_sum hW hn hW1 hp i (by omega)
  obtain⟨e1,e2⟩:=join_ix hW hn hW1 (i:=i) (by omega)
  have hl:=joinTo_len g i
  have hpi:=hp i (by omega)
  rw[joinTo,e1]
  generalize i/(2*W)/2*W+i%(2*W)/2=k at *
  refine⟨?_,fun j=>?_⟩
  ·rw[sumL_set _ _ _ (by omega) _ (by omega),if_pos e2,h1,sumL]
   omega
  ·rw[set_get _ _ _ (by omega)]
   split
   ·have:=h2 k;omega
   ·exact h2 j
theorem join_ok{g:Grd}(hg:GrdOk g)(ho:joinOk g)(h8:8≤g.w∧8≤g.h):Pos30 (joinG g).p∧0<sumL (joinG g).p (joinG g).p.length∧GrdOk (normG (joinG g)):=by
 obtain⟨hl0,hl1⟩:=hg.len
 obtain⟨W,H,hW,hH,hW1,hH1,hn⟩:=nat_sides hg
 obtain⟨hs,-,hwh⟩:=hg
 obtain⟨o1,o2,o3⟩:=ho
 obtain⟨a,rfl⟩:∃a,W=2*a:=⟨W/2,by omega⟩
 obtain⟨b,rfl⟩:∃b,H=2*b:=⟨H/2,by omega⟩
 obtain⟨j1,j2⟩:=joinTo_sum hW hn (by omega) hwh.1 g.p.length (Nat.le_refl _)
 have hlen:(joinG g).p.length=g.p.length/4:=joinTo_len g _
 have e4:g.p.length/4=a*b:=by
  have e:2*a*(2*b)=4*(a*b):=by rw[Nat.mul_mul_mul_comm]
  omega
 have hsum:sumL (joinG g).p (joinG g).p.length=sumL g.p g.p.length:=by rw[hlen];exact j1
 have hpos:Pos30 (joinG g).p:=fun i hi=>by
  refine⟨j2 i,?_⟩
  obtain⟨B,hB⟩:∃B,∀i,i<(joinG g).p.length→0≤(joinG g).p.getD i 0∧(joinG g).p.getD i 0≤B:=by
   refine⟨sumL (joinG g).p (joinG g).p.length,fun i hi=>⟨j2 i,?_⟩⟩
   exact(sumL_ge0 (fun i _=>j2 i) _ (Nat.le_refl _) hi).2
  have:=sumL_ge hB _ (Nat.le_refl _) hi
  have:=hwh.2.2
  omega
 have hz:0<sumL (joinG g).p (joinG g).p.length:=by
  rw[hsum]
  have:=hwh.2.1
  omega
 refine⟨hpos,hz,made_ok ?_ ?_ hpos hz⟩
 ·obtain⟨a1,a2,a3⟩:=hs
  exact⟨by omega,by omega,by omega,by omega⟩
 ·show ((joinG g).p.length:Int)=g.w/2*(g.h/2)
  rw[hlen,e4,hW,hH,Int.natCast_mul]
  rw[show ((2*a:Nat):Int)/2=(a:Int) by omega,show ((2*b:Nat):Int)/2=(b:Int) by omega]
theorem raw_ok{g:Grd}(hg:GrdOk g)(hk:(chooseN g).kind≠0):((chooseN g).kind=1∨(chooseN g).kind=2∨(chooseN g).kind=3)∧Pos30 (rawN g (chooseN g)).p∧0<sumL (rawN g (chooseN g)).p (rawN g (chooseN g)).p.length∧GrdOk (normG (rawN g (chooseN g))):=by
 have key:∀c,chooseN g=c→c.kind≠0→(c.kind=1∨c.kind=2∨c.kind=3)∧Pos30 (rawN g c).p∧0<sumL (rawN g c).p (rawN g c).p.length∧GrdOk (normG (rawN g c)):=by
  intro c hc hk
  unfold chooseN at hc
  split at hc
  ·rename_i h
   subst hc
   exact⟨.inr (.inl rfl),join_ok hg h.2.2.2 ⟨h.2.1,h.2.2.1⟩⟩
  ·split at hc
   ·rename_i h
    subst hc
    exact⟨.inl rfl,split_ok hg h.2.2.2⟩
   ·split at hc
    ·subst hc
     exact⟨.inr (.inr rfl),cut_ok hg⟩
    ·subst hc
     exact absurd rfl hk
 exact key _ rfl hk
section
variable {W H:Nat} {f:List Int}
theorem widN_ok{n:Noi}(h:NoiOk n)(r:Int):NoiOk (widN n r):=by
 obtain⟨h1,h2,h3⟩:=h
 exact⟨by unfold widN;dsimp only;omega,h2,h3⟩
theorem weightsN_ok{g:Grd}{n:Noi}{z:Int}{l:List Int}(hn:NoiOk n)(h:weightsN W H f g n z=some l):l.length=g.p.length∧Wt l∧∀i,i<l.length→1≤l.getD i 0:=by
 unfold weightsN at h
 dsimp only at h
 split at h
 ·cases h
 ·injection h with h
  have hl:l.length=g.p.length:=by rw[← h];exact tab_len _ _
  have hv:=widN_ok hn (roughB (sqH W H f ((meanN g).1/256) ((meanN g).2/256) 1)/4)
  have key:∀i,i<l.length→1≤l.getD i 0∧l.getD i 0≤65536:=fun i hi=>by
   rw[← h,tab_get _ (by omega)]
   have h1:=wgtN_in hv (heightT W H f (g.x+colI g.w i*g.st) (g.y+rowI g.w i*g.st)-z)
   obtain⟨-,h2,-⟩:=hv
   split<;>omega
  exact⟨hl,fun i hi=>by have:=key i hi;omega,fun i hi=>(key i hi).1⟩
end
structure LayOk(s:NavS):Prop where
 g:GrdOk s.g
 b:0≤s.bk.b∧s.bk.b≤1099511627776
theorem layN_ok:∀(k:Nat) {s:NavS},LayOk s→LayOk (layN k s)∧((layN k s).cf=s.cf∧(layN k s).ln=s.ln∧(layN k s).p=s.p∧(layN k s).w=s.w∧(layN k s).mode=s.mode∧(layN k s).x=s.x∧(layN k s).y=s.y)∧(layN k s).deeds.length≤s.deeds.length+k
 | 0,s,h=>⟨h,⟨rfl,rfl,rfl,rfl,rfl,rfl,rfl⟩,Nat.le_refl _⟩
 | k+1,s,h=>by
  rw[layN]
  dsimp only
  split
  ·exact⟨h,⟨rfl,rfl,rfl,rfl,rfl,rfl,rfl⟩,by omega⟩
  ·rename_i hk
   obtain⟨hc,hp,hz,ho⟩:=raw_ok h.g hk
   have hln:=ho.len
   have hcost:0≤costL ((normG (rawN s.g (chooseN s.g))).w*(normG (rawN s.g (chooseN s.g))).h)∧costL ((normG (rawN s.g (chooseN s.g))).w*(normG (rawN s.g (chooseN s.g))).h)≤4194400:=costL_in (by rw[← ho.2.1];omega)
   have hs0:0≤sumL s.g.p s.g.p.length:=by have:=h.g.2.2.2.1;have:=h.g.len;omega
   obtain⟨b,hb,hb1⟩:∃b,(if (chooseN s.g).kind=1 then plusL s.bk s.bk.b (2*costL ((normG (rawN s.g (chooseN s.g))).w*(normG (rawN s.g (chooseN s.g))).h))else if (chooseN s.g).kind=2 then plusL s.bk s.bk.b (costL ((normG (rawN s.g (chooseN s.g))).w*(normG (rawN s.g (chooseN s.g))).h))else plusL s.bk (scaledL s.bk.b 1 (sumL s.g.p s.g.p.length) (sumL (rawN s.g (chooseN s.g)).p (rawN s.g (chooseN s.g)).p.length)) (costL ((normG (rawN s.g (chooseN s.g))).w*(normG (rawN s.g (chooseN s.g))).h)))=b∧0≤b.b∧b.b≤1099511627776:=by
    have hb0:=h.b
    have hsc:=scaledL_in (b:=s.bk.b) (most:=1) (s:=sumL s.g.p s.g.p.length) (z:=sumL (rawN s.g (chooseN s.g)).p (rawN s.g (chooseN s.g)).p.length) hb0 (by decide) hs0
    generalize costL ((normG (rawN s.g (chooseN s.g))).w*(normG (rawN s.g (chooseN s.g))).h)=co at *
    refine⟨_,rfl,?_⟩
    split
    ·exact plusL_in ⟨hb0,by omega⟩
    ·split
     ·exact plusL_in ⟨hb0,by omega⟩
     ·exact plusL_in ⟨hsc,by omega⟩
   rw[hb]
   have hstep:LayOk { s with g:=normG (rawN s.g (chooseN s.g)),bk:=b,deeds:=s.deeds++[⟨4,grd0,0,0,0,[],chooseN s.g⟩] }:=⟨ho,hb1⟩
   obtain⟨r1,⟨r2,r3,r4,r5,r6,r7,r8⟩,r9⟩:=layN_ok k hstep
   exact⟨r1,⟨r2,r3,r4,r5,r6,r7,r8⟩,by
    refine Nat.le_trans r9 ?_
    show (s.deeds++[(⟨4,grd0,0,0,0,[],chooseN s.g⟩:Ded)]).length+k≤_
    rw[List.length_append,List.length_singleton]
    omega⟩
def LnOk(s:Ln):Prop:=s.ok∧(0≤s.throw∧s.throw≤100)∧s.threw≤100
theorem note_f(s:Ln)(k:Int):(s.note k).high=s.high∧(s.note k).last=s.last∧(s.note k).jump=s.jump∧(s.note k).threw=s.threw∧(s.note k).throw=s.throw:=by
 unfold Ln.note
 repeat' split
 all_goals exact⟨rfl,rfl,rfl,rfl,rfl⟩
theorem LnOk.note{s:Ln}(h:LnOk s)(k:Int):LnOk (s.note k):=by
 obtain⟨e1,e2,e3,e4,e5⟩:=note_f s k
 unfold LnOk Ln.ok at h ⊢
 rw[e1,e2,e3,e4,e5]
 exact h
theorem z00:(-4294967296:Int)≤0∧(0:Int)≤4294967296:=by decide
theorem LnOk.radar{s:Ln}(h:LnOk s)(time:Int){a:Int}(ha : -2147483648≤a∧a<2147483648):LnOk (s.radar time a).1∧(-4294967296≤(s.radar time a).2.2.1∧(s.radar time a).2.2.1≤4294967296):=by
 unfold Ln.radar
 have h0:=h
 obtain⟨⟨i1,i2,i3,i4,i5,i6,i7⟩,⟨i8,i9⟩,i10⟩:=h0
 split
 ·exact⟨h.note 2,z00⟩
 split
 ·exact⟨h.note 3,z00⟩
 split
 ·split
  ·refine⟨LnOk.note ?_ 4,z00⟩
   exact⟨⟨i1,i2,i3,i4,i5,by show 0≤s.threw+1;omega,by show s.threw+1≤1000;omega⟩,⟨i8,i9⟩,by show s.threw+1≤100;omega⟩
  ·refine⟨LnOk.note ?_ 5,by show -4294967296≤s.high-a;omega,by show s.high-a≤4294967296;omega⟩
   exact⟨⟨i1,i2,by show -4294967296≤s.high-a;omega,by show s.high-a≤4294967296;omega,i5,(by decide:(0:Int)≤0),(by decide:(0:Int)≤1000)⟩,⟨i8,i9⟩,(by decide:(0:Int)≤100)⟩
 ·refine⟨LnOk.note ?_ 0,by show -4294967296≤s.high-a;omega,by show s.high-a≤4294967296;omega⟩
  exact⟨⟨i1,i2,by show -4294967296≤s.high-a;omega,by show s.high-a≤4294967296;omega,i5,(by decide:(0:Int)≤0),(by decide:(0:Int)≤1000)⟩,⟨i8,i9⟩,(by decide:(0:Int)≤100)⟩
theorem LnOk.order{s:Ln}(h:LnOk s)(seq time:Int):LnOk (s.order seq time):=by
 unfold Ln.order
 split
 ·exact h
 ·exact h
theorem LnOk.take{s:Ln}(h:LnOk s)(kind seq time:Int){a:Int}(ha : -2147483648≤a∧a<2147483648):LnOk (s.take kind seq time a).1∧(-4294967296≤(s.take kind seq time a).2.2.1∧(s.take kind seq time a).2.2.1≤4294967296):=by
 unfold Ln.take
 split
 ·exact⟨h.note 2,z00⟩
 split
 ·exact⟨h.note 1,z00⟩
 split
 ·refine⟨LnOk.note ?_ 0,z00⟩
  obtain⟨⟨i1,i2,i3,i4,i5,i6,i7⟩,i8,i9⟩:=h.order seq time
  exact⟨⟨ha.1,ha.2,i3,i4,i5,i6,i7⟩,i8,i9⟩
 split
 ·exact(h.order seq time).radar time ha
 ·exact⟨(h.order seq time).note 6,z00⟩
structure PrfOk(p:Prf):Prop where
 len:p.l.length=64
 first:p.first<64
 n:p.n≤64
 at_:(-16777216≤p.x∧p.x≤16777216)∧(-16777216≤p.y∧p.y≤16777216)
 gap:0≤p.gap∧p.gap≤1048576
 all:∀i,i<64→((-16777216≤(p.l.getD i default).dx∧(p.l.getD i default).dx≤16777216)∧(-16777216≤(p.l.getD i default).dy∧(p.l.getD i default).dy≤16777216))∧(-4294967296≤(p.l.getD i default).z∧(p.l.getD i default).z≤4294967296)
theorem pNew_ok(gap:Int):PrfOk (pNew gap):=by
 refine⟨List.length_replicate ..,by show 0<64;decide,by show 0≤64;decide,⟨⟨by show (-16777216:Int)≤0;decide,by show (0:Int)≤16777216;decide⟩,by show (-16777216:Int)≤0;decide,by show (0:Int)≤16777216;decide⟩,⟨by show 0≤min (max gap 0) 1048576;omega,by show min (max gap 0) 1048576≤1048576;omega⟩,fun i hi=>?_⟩
 have e:(pNew gap).l.getD i default=⟨0,0,0⟩:=by
  show (List.replicate 64 (⟨0,0,0⟩:Smp)).getD i default=_
  rw[List.getD_eq_getElem?_getD,List.getElem?_replicate,if_pos hi]
  rfl
 rw[e]
 decide
theorem PrfOk.move{p:Prf}(h:PrfOk p)(dx dy:Int):PrfOk (pMove p dx dy).1:=by
 unfold pMove
 split
 ·exact h
 split
 ·exact h
 ·rename_i h1 h2
  unfold out24 at h2
  exact⟨h.len,h.first,h.n,⟨by show _≤p.x+dx∧p.x+dx≤_;omega,by show _≤p.y+dy∧p.y+dy≤_;omega⟩,h.gap,h.all⟩
theorem smp_set(l:List Smp)(j:Nat)(v:Smp)(hj:j<l.length)(n:Nat):(l.set j v).getD n default=if j=n then v else l.getD n default:=by
 rw[List.getD_eq_getElem?_getD,List.getElem?_set]
 split
 ·rfl
 ·rw[← List.getD_eq_getElem?_getD]
theorem PrfOk.add{p:Prf}(h:PrfOk p){z:Int}(hz : -4294967296≤z∧z≤4294967296):PrfOk (pAdd p z):=by
 have hl:=h.len
 have hn:=h.n
 unfold pAdd
 split
 ·exact h
 split
 ·have hj:((p.first+1)%64+63)%64<64:=Nat.mod_lt _ (by decide)
  refine⟨by show (p.l.set _ _).length=64;rw[List.length_set];exact hl,Nat.mod_lt _ (by decide),hn,h.at_,h.gap,fun i hi=>?_⟩
  show (_∧_)∧_
  rw[smp_set _ _ _ (by omega)]
  split
  ·exact⟨h.at_,hz⟩
  ·exact h.all i hi
 ·have hj:(p.first+p.n)%64<64:=Nat.mod_lt _ (by decide)
  refine⟨by show (p.l.set _ _).length=64;rw[List.length_set];exact hl,h.first,by show p.n+1≤64;omega,h.at_,h.gap,fun i hi=>?_⟩
  show (_∧_)∧_
  rw[smp_set _ _ _ (by omega)]
  split
  ·exact⟨h.at_,hz⟩
  ·exact h.all i hi
theorem pAll_len(p:Prf):∀i,(pAll p i).length=i
 | 0=>rfl
 | i+1=>by rw[pAll,List.length_append,pAll_len p i];rfl
end Go.Proofs.YthajpemlpmlefaaGreat
