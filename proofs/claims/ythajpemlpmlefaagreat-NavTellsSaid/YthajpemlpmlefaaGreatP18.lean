import Derived.Laws.BitsAllLaws
import Derived.Test.YthajpemlpmlefaaGreatP09
import Derived.Test.YthajpemlpmlefaaGreatP12
import Derived.Test.YthajpemlpmlefaaGreatP17
set_option maxHeartbeats 512000000
set_option maxRecDepth 4000
set_option linter.unusedVariables false
set_option linter.unusedSimpArgs false
namespace Go.Proofs.YthajpemlpmlefaaGreat
def crcP(ys:List Int):List Int:=ys++bytesN (sumY ys) 4
theorem crcP_len(ys:List Int):(crcP ys).length=ys.length+4:=by simp[crcP,bytesN_len]
theorem U8s.app{a b:List Int}(h:U8s a)(g:U8s b):U8s (a++b):=fun x hx=>(List.mem_append.1 hx).elim (h x) (g x)
theorem crcP_u8{ys:List Int}(h:U8s ys):U8s (crcP ys):=U8s.app h (bytesN_in _ _)
def crcOk(ys:List Int):Prop:=4≤ys.length∧ys.drop (ys.length-4)=bytesN (sumY (ys.take (ys.length-4))) 4
instance (ys:List Int):Decidable (crcOk ys):=by unfold crcOk;infer_instance
theorem crcOk_P(ys:List Int):crcOk (crcP ys):=by
 refine⟨by rw[crcP_len];omega,?_⟩
 rw[crcP_len,Nat.add_sub_cancel]
 unfold crcP
 rw[List.drop_left,List.take_left]
theorem crcOk_eq{ys:List Int}(h:crcOk ys):ys=crcP (ys.take (ys.length-4)):=by
 unfold crcP
 rw[← h.2,List.take_append_drop]
def seg(ys:List Int)(a n:Nat):List Int:=(ys.drop a).take n
theorem seg_len{ys:List Int}{a n:Nat}(h:a+n≤ys.length):(seg ys a n).length=n:=by simp[seg];omega
theorem seg_u8{ys:List Int}(h:U8s ys)(a n:Nat):U8s (seg ys a n):=fun x hx=>h x (List.mem_of_mem_drop (List.mem_of_mem_take hx))
theorem seg_skip(a r:List Int){m i k n:Nat}(ha:a.length=m)(hk:k=m+i):seg (a++r) k n=seg r i n:=by
 subst ha hk
 unfold seg
 rw[List.drop_append,List.drop_eq_nil_of_le (by omega),List.nil_append,Nat.add_sub_cancel_left]
theorem seg_head(b c:List Int){n:Nat}(hb:b.length=n):seg (b++c) 0 n=b:=by subst hb;simp[seg]
theorem seg_mid(a b c:List Int){i n:Nat}(ha:a.length=i)(hb:b.length=n):seg (a++b++c) i n=b:=by
 rw[List.append_assoc,seg_skip a _ ha (Nat.add_zero _).symm,seg_head b c hb]
def leY(ys:List Int)(a n:Nat):Nat:=numY (seg ys a n)
theorem leY_lt{ys:List Int}(h:U8s ys){a n:Nat}(hn:a+n≤ys.length):leY ys a n<256^n:=by
 have:=numY_lt (seg_u8 h a n)
 rw[seg_len hn]at this
 exact this
def nT(W H:Nat):Nat:=cntF W*cntF H
def headN(W H:Nat):Nat:=22+6*nT W H
def tX(W i:Nat):Int:=((i%cntF W:Nat):Int)
def tY(W i:Nat):Int:=((i/cntF W:Nat):Int)
def tilW(W H i:Nat):Nat:=(boxF W H (tX W i) (tY W i)).2.2.1
def tilH(W H i:Nat):Nat:=(boxF W H (tX W i) (tY W i)).2.2.2
def cutN(W H:Nat)(z:List Int)(i:Nat):List Int:=cutF W H z (tX W i) (tY W i)
def rawB(wd:Nat)(z:List Int):List Int:=pack (rowB (deltas z wd))
def tilB(W H:Nat)(z:List Int)(i:Nat):List Int:=crcP (rawB (tilW W H i) (cutN W H z i))
def bodyTo(W H:Nat)(z:List Int):Nat→List Int
 | 0=>[]
 | i+1=>bodyTo W H z i++tilB W H z i
def u32N(x:Int):Nat:=(x%4294967296).toNat
def hdrB(W H cell:Nat)(ox oy:Int):List Int:=bytesN 1296978516 4++bytesN W 2++bytesN H 2++bytesN cell 2++bytesN (u32N ox) 4++bytesN (u32N oy) 4
def dirTo(W H cell:Nat)(ox oy:Int)(z:List Int):Nat→List Int
 | 0=>hdrB W H cell ox oy
 | i+1=>dirTo W H cell ox oy z i++bytesN (headN W H+(bodyTo W H z i).length) 4++bytesN (tilB W H z i).length 2
def chartB(W H cell:Nat)(ox oy:Int)(z:List Int):List Int:=crcP (dirTo W H cell ox oy z (nT W H))++bodyTo W H z (nT W H)
theorem raw_len(wd:Nat)(z:List Int)(h:z.length≤256):1≤(rawB wd z).length∧(rawB wd z).length≤1220:=by
 have hrl:=rowB_len (deltas z wd)
 have hbk:=bestK_le (deltas z wd)
 have hbs:=bitsOf_le (deltas z wd) (bestK (deltas z wd)) hbk
 have hdl:=deltas_len z wd
 have hpl:=pack_len (rowB (deltas z wd))
 unfold rawB
 omega
theorem raw_u8(wd:Nat)(z:List Int):U8s (rawB wd z):=pack_u8 _
theorem cnt_pos{W:Nat}(h:2≤W):1≤cntF W:=by unfold cntF;omega
theorem cnt_le{W:Nat}(h:W≤256):cntF W≤16:=by unfold cntF;omega
theorem nT_le{W H:Nat}(h:W≤256∧H≤256):nT W H≤256:=by
 have:=Nat.mul_le_mul (cnt_le h.1) (cnt_le h.2)
 unfold nT;omega
theorem nT_pos{W H:Nat}(h:2≤W∧2≤H):1≤nT W H:=Nat.mul_pos (cnt_pos h.1) (cnt_pos h.2)
theorem tile_in{W H i:Nat}(hi:i<nT W H):i%cntF W<cntF W∧i/cntF W<cntF H:=by
 unfold nT at hi
 have hp:0<cntF W:=by
  rcases Nat.eq_zero_or_pos (cntF W) with e|e
  ·rw[e,Nat.zero_mul]at hi;omega
  ·exact e
 exact⟨Nat.mod_lt _ hp,Nat.div_lt_of_lt_mul hi⟩
theorem tile_box{W H i:Nat}(hi:i<nT W H):1≤tilW W H i∧tilW W H i≤16∧1≤tilH W H i∧tilH W H i≤16:=by
 obtain⟨h1,h2⟩:=tile_in hi
 unfold tilW tilH tX tY
 rw[box_at h1 h2]
 generalize i%cntF W=x at *
 generalize i/cntF W=y at *
 unfold cntF at h1 h2
 simp only
 omega
theorem cutN_len{W H i:Nat}{z:List Int}(hz:z.length=W*H):(cutN W H z i).length=tilW W H i*tilH W H i:=by
 have hbx:=boxF_in W H (tX W i) (tY W i)
 unfold cutN cutF tilW tilH
 rw[cutTo_len hz hbx.1 hbx.2.1 _ (Nat.le_refl _),Nat.mul_comm]
theorem cutN_le{W H i:Nat}{z:List Int}(hz:z.length=W*H):(cutN W H z i).length≤256:=by
 have hbx:=boxF_in W H (tX W i) (tY W i)
 have:=Nat.mul_le_mul hbx.2.2.1 hbx.2.2.2
 rw[cutN_len hz]
 exact this
theorem tilB_len{W H i:Nat}{z:List Int}(hz:z.length=W*H):5≤(tilB W H z i).length∧(tilB W H z i).length≤1224:=by
 have:=raw_len (tilW W H i) _ (cutN_le (i:=i) hz)
 unfold tilB
 rw[crcP_len]
 omega
theorem tilB_u8(W H i:Nat)(z:List Int):U8s (tilB W H z i):=crcP_u8 (raw_u8 _ _)
theorem bodyTo_u8(W H:Nat)(z:List Int):∀i,U8s (bodyTo W H z i)
 | 0=>by intro x hx;simp[bodyTo]at hx
 | i+1=>U8s.app (bodyTo_u8 W H z i) (tilB_u8 W H i z)
theorem bodyTo_len{W H:Nat}{z:List Int}(hz:z.length=W*H):∀i,(bodyTo W H z i).length≤1224*i
 | 0=>by simp[bodyTo]
 | i+1=>by
  have:=bodyTo_len hz i
  have:=tilB_len (i:=i) hz
  rw[bodyTo,List.length_append]
  omega
theorem hdrB_len(W H cell:Nat)(ox oy:Int):(hdrB W H cell ox oy).length=18:=by simp[hdrB,bytesN_len]
theorem hdrB_u8(W H cell:Nat)(ox oy:Int):U8s (hdrB W H cell ox oy):=U8s.app (U8s.app (U8s.app (U8s.app (U8s.app (bytesN_in _ _) (bytesN_in _ _)) (bytesN_in _ _)) (bytesN_in _ _)) (bytesN_in _ _)) (bytesN_in _ _)
theorem dirTo_len(W H cell:Nat)(ox oy:Int)(z:List Int):∀i,(dirTo W H cell ox oy z i).length=18+6*i
 | 0=>hdrB_len ..
 | i+1=>by rw[dirTo,List.length_append,List.length_append,dirTo_len W H cell ox oy z i,bytesN_len,bytesN_len];omega
theorem dirTo_u8(W H cell:Nat)(ox oy:Int)(z:List Int):∀i,U8s (dirTo W H cell ox oy z i)
 | 0=>hdrB_u8 W H cell ox oy
 | i+1=>U8s.app (U8s.app (dirTo_u8 W H cell ox oy z i) (bytesN_in _ _)) (bytesN_in _ _)
theorem chartB_u8(W H cell:Nat)(ox oy:Int)(z:List Int):U8s (chartB W H cell ox oy z):=U8s.app (crcP_u8 (dirTo_u8 W H cell ox oy z _)) (bodyTo_u8 W H z _)
theorem head_len(W H cell:Nat)(ox oy:Int)(z:List Int):(crcP (dirTo W H cell ox oy z (nT W H))).length=headN W H:=by rw[crcP_len,dirTo_len];unfold headN;omega
theorem chartB_len(W H cell:Nat)(ox oy:Int)(z:List Int):(chartB W H cell ox oy z).length=headN W H+(bodyTo W H z (nT W H)).length:=by unfold chartB;rw[List.length_append,head_len]
theorem dirTo_ext(W H cell:Nat)(ox oy:Int)(z:List Int)(i:Nat):∀k,∃t,dirTo W H cell ox oy z (i+k)=dirTo W H cell ox oy z i++t
 | 0=>⟨[],by simp⟩
 | k+1=>by
  obtain⟨t,h⟩:=dirTo_ext W H cell ox oy z i k
  rw[← Nat.add_assoc,dirTo,h,List.append_assoc,List.append_assoc]
  exact⟨_,rfl⟩
theorem bodyTo_ext(W H:Nat)(z:List Int)(i:Nat):∀k,∃t,bodyTo W H z (i+k)=bodyTo W H z i++t
 | 0=>⟨[],by simp⟩
 | k+1=>by
  obtain⟨t,h⟩:=bodyTo_ext W H z i k
  rw[← Nat.add_assoc,bodyTo,h,List.append_assoc]
  exact⟨_,rfl⟩
def wY(ys:List Int):Nat:=leY ys 4 2
def hY(ys:List Int):Nat:=leY ys 6 2
def cellY(ys:List Int):Nat:=leY ys 8 2
def fromY(ys:List Int)(i:Nat):Nat:=leY ys (18+6*i) 4
def szY(ys:List Int)(i:Nat):Nat:=leY ys (18+6*i+4) 2
def atY(ys:List Int):Nat→Nat
 | 0=>headN (wY ys) (hY ys)
 | i+1=>atY ys i+szY ys i
def nY(ys:List Int):Nat:=nT (wY ys) (hY ys)
def rangeY(ys:List Int):Prop:=2≤wY ys∧wY ys≤256∧2≤hY ys∧hY ys≤256∧1≤cellY ys∧cellY ys≤1000
instance (ys:List Int):Decidable (rangeY ys):=by unfold rangeY;infer_instance
def openC(ys:List Int):Int :=
 if ys.length<18 then 5 else if leY ys 0 4≠1296978516 then 3 else if ¬rangeY ys then 2 else if ys.length<headN (wY ys) (hY ys)then 5
 else if ¬crcOk (ys.take (headN (wY ys) (hY ys)))then 4 else if ¬(∀i,i<nY ys→fromY ys i=atY ys i)then 2 else if atY ys (nY ys)≠ys.length then 5 else 0
structure Opens(ys:List Int):Prop where
 len:18≤ys.length
 mag:leY ys 0 4=1296978516
 rng:rangeY ys
 head:headN (wY ys) (hY ys)≤ys.length
 sum:crcOk (ys.take (headN (wY ys) (hY ys)))
 dir:∀i,i<nY ys→fromY ys i=atY ys i
 size:atY ys (nY ys)=ys.length
theorem openC_iff(ys:List Int):openC ys=0↔Opens ys:=by
 unfold openC
 constructor
 ·intro h
  repeat' (split at h;omega)
  constructor<;>first|assumption|omega|(apply Decidable.of_not_not;assumption)
 ·intro h
  obtain⟨h1,h2,h3,h4,h5,h6,h7⟩:=h
  rw[if_neg (by omega),if_neg (by omega),if_neg (fun e=>e h3),if_neg (by omega),if_neg (fun e=>e h5),if_neg (fun e=>e h6),if_neg (by omega)]
theorem atY_mono(ys:List Int)(i:Nat):∀k,atY ys i≤atY ys (i+k)
 | 0=>Nat.le_refl _
 | k+1=>by have:=atY_mono ys i k;rw[← Nat.add_assoc,atY];omega
def segT(ys:List Int)(i:Nat):List Int:=seg ys (atY ys i) (szY ys i)
theorem Opens.in_{ys:List Int}(h:Opens ys){i:Nat}(hi:i<nY ys):atY ys i+szY ys i≤ys.length:=by
 have:=atY_mono ys (i+1) (nY ys-(i+1))
 rw[show i+1+(nY ys-(i+1))=nY ys by omega,h.size,atY]at this
 exact this
section
variable {W H cell:Nat} {ox oy:Int} {z:List Int}
theorem chartB_hdr:∃t,chartB W H cell ox oy z=hdrB W H cell ox oy++t:=by
 obtain⟨t,h⟩:=dirTo_ext W H cell ox oy z 0 (nT W H)
 rw[Nat.zero_add]at h
 unfold chartB crcP
 rw[h,dirTo,List.append_assoc,List.append_assoc]
 exact⟨_,rfl⟩
theorem leY_seg{ys:List Int}{a n x:Nat}(h:seg ys a n=bytesN x n)(hx:x<256^n):leY ys a n=x:=by
 unfold leY
 rw[h,numY_bytesN,Nat.mod_eq_of_lt hx]
theorem u32N_lt(x:Int):u32N x<256^4:=by unfold u32N;omega
theorem chart_hdr(hW:W≤256∧H≤256∧cell≤1000):leY (chartB W H cell ox oy z) 0 4=1296978516∧wY (chartB W H cell ox oy z)=W∧hY (chartB W H cell ox oy z)=H∧cellY (chartB W H cell ox oy z)=cell∧leY (chartB W H cell ox oy z) 10 4=u32N ox∧leY (chartB W H cell ox oy z) 14 4=u32N oy:=by
 obtain⟨t,h⟩:=chartB_hdr (W:=W) (H:=H) (cell:=cell) (ox:=ox) (oy:=oy) (z:=z)
 unfold wY hY cellY
 rw[h]
 unfold hdrB
 simp only[List.append_assoc]
 refine⟨leY_seg (seg_head _ _ (bytesN_len ..)) (by omega),leY_seg ?_ (by omega),leY_seg ?_ (by omega),leY_seg ?_ (by omega),leY_seg ?_ (u32N_lt _),leY_seg ?_ (u32N_lt _)⟩
 ·rw[seg_skip _ _ (bytesN_len ..) (i:=0) rfl,seg_head _ _ (bytesN_len ..)]
 ·rw[seg_skip _ _ (bytesN_len ..) (i:=2) rfl,seg_skip _ _ (bytesN_len ..) (i:=0) rfl,seg_head _ _ (bytesN_len ..)]
 ·rw[seg_skip _ _ (bytesN_len ..) (i:=4) rfl,seg_skip _ _ (bytesN_len ..) (i:=2) rfl,seg_skip _ _ (bytesN_len ..) (i:=0) rfl,seg_head _ _ (bytesN_len ..)]
 ·rw[seg_skip _ _ (bytesN_len ..) (i:=6) rfl,seg_skip _ _ (bytesN_len ..) (i:=4) rfl,seg_skip _ _ (bytesN_len ..) (i:=2) rfl,seg_skip _ _ (bytesN_len ..) (i:=0) rfl,seg_head _ _ (bytesN_len ..)]
 ·rw[seg_skip _ _ (bytesN_len ..) (i:=10) rfl,seg_skip _ _ (bytesN_len ..) (i:=8) rfl,seg_skip _ _ (bytesN_len ..) (i:=6) rfl,seg_skip _ _ (bytesN_len ..) (i:=4) rfl,seg_skip _ _ (bytesN_len ..) (i:=0) rfl,seg_head _ _ (bytesN_len ..)]
theorem chart_dir(hW:W≤256∧H≤256)(hz:z.length=W*H){i:Nat}(hi:i<nT W H):fromY (chartB W H cell ox oy z) i=headN W H+(bodyTo W H z i).length∧szY (chartB W H cell ox oy z) i=(tilB W H z i).length:=by
 obtain⟨t,h⟩:=dirTo_ext W H cell ox oy z (i+1) (nT W H-(i+1))
 rw[show i+1+(nT W H-(i+1))=nT W H by omega]at h
 have hn:=nT_le hW
 have hb:=bodyTo_len hz i
 have ht:=tilB_len (i:=i) hz
 have hd:=dirTo_len W H cell ox oy z i
 unfold fromY szY chartB crcP
 rw[h,dirTo]
 simp only[List.append_assoc]
 refine⟨leY_seg ?_ (by unfold headN;omega),leY_seg ?_ (by omega)⟩
 ·rw[seg_skip _ _ hd (Nat.add_zero _).symm,seg_head _ _ (bytesN_len ..)]
 ·rw[seg_skip _ _ hd (i:=4) rfl,seg_skip _ _ (bytesN_len ..) (i:=0) rfl,seg_head _ _ (bytesN_len ..)]
theorem chart_at(hW:W≤256∧H≤256∧cell≤1000)(hz:z.length=W*H):∀i,i≤nT W H→atY (chartB W H cell ox oy z) i=headN W H+(bodyTo W H z i).length
 | 0,_=>by
  obtain⟨-,h1,h2,-⟩:=chart_hdr (ox:=ox) (oy:=oy) (z:=z) hW
  rw[atY,h1,h2];rfl
 | i+1,hi=>by rw[atY,chart_at hW hz i (by omega),(chart_dir ⟨hW.1,hW.2.1⟩ hz (by omega)).2,bodyTo,List.length_append];omega
theorem chart_seg(hW:W≤256∧H≤256∧cell≤1000)(hz:z.length=W*H){i:Nat}(hi:i<nT W H):segT (chartB W H cell ox oy z) i=tilB W H z i:=by
 obtain⟨t,h⟩:=bodyTo_ext W H z (i+1) (nT W H-(i+1))
 rw[show i+1+(nT W H-(i+1))=nT W H by omega]at h
 unfold segT
 rw[chart_at hW hz i (by omega),(chart_dir ⟨hW.1,hW.2.1⟩ hz hi).2]
 unfold chartB
 rw[seg_skip _ _ (head_len ..) rfl,h,bodyTo]
 exact seg_mid _ _ _ rfl rfl
theorem chart_opens(hW:2≤W∧W≤256∧2≤H∧H≤256∧1≤cell∧cell≤1000)(hz:z.length=W*H):Opens (chartB W H cell ox oy z):=by
 have hw:W≤256∧H≤256∧cell≤1000:=by omega
 obtain⟨h1,h2,h3,h4,-⟩:=chart_hdr (ox:=ox) (oy:=oy) (z:=z) hw
 have hl:=chartB_len W H cell ox oy z
 refine⟨by rw[hl];unfold headN;omega,h1,⟨by omega,by omega,by omega,by omega,by omega,by omega⟩,by rw[h2,h3,hl];omega,?_,?_,?_⟩
 ·rw[h2,h3]
  unfold chartB
  rw[List.take_left' (head_len ..)]
  exact crcOk_P _
 ·unfold nY
  rw[h2,h3]
  intro i hi
  rw[(chart_dir ⟨hw.1,hw.2.1⟩ hz hi).1,chart_at hw hz i (by omega)]
 ·unfold nY
  rw[h2,h3,chart_at hw hz _ (Nat.le_refl _),hl]
end
def LaidR(W H:Nat)(z g:List Int)(i:Nat):Prop:=g.length=W*H∧∀x y,x<W→y<H→(y/16)*cntF W+x/16<i→g.getD (y*W+x) 0=z.getD (y*W+x) 0
theorem LaidR.zero{W H:Nat}{z g:List Int}(h:g.length=W*H):LaidR W H z g 0:=⟨h,fun _ _ _ _ h=>by omega⟩
theorem LaidR.next{W H:Nat}{z g:List Int}{i:Nat}(hz:z.length=W*H)(hi:i<nT W H)(h:LaidR W H z g i):LaidR W H z (layF W H z g (i%cntF W) (i/cntF W)) (i+1):=by
 obtain⟨h1,h2⟩:=tile_in hi
 have hbx:=boxF_in W H (i%cntF W:Nat) (i/cntF W:Nat)
 have hsz:=(box_size h1 h2 hz).1
 refine⟨layTo_len h.1 hbx.1 hbx.2.1 hsz _ (Nat.le_refl _),fun x y hx hy e=>?_⟩
 unfold layF cutF
 refine lay_keep hz h.1 hbx.1 hbx.2.1 _ (Nat.le_refl _) ?_
 rcases Nat.lt_or_ge ((y/16)*cntF W+x/16) i with e1|e1
 ·exact .inl (h.2 x y hx hy e1)
 ·have hxc:x/16<cntF W:=by unfold cntF;omega
  have ee:i=x/16+cntF W*(y/16):=by rw[Nat.mul_comm (cntF W)];omega
  have e2:i%cntF W=x/16:=by rw[ee,Nat.add_mul_mod_self_left,Nat.mod_eq_of_lt hxc]
  have e3:i/cntF W=y/16:=by rw[ee,Nat.add_mul_div_left _ _ (by omega),Nat.div_eq_of_lt hxc,Nat.zero_add]
  refine .inr ⟨y-16*(y/16),?_⟩
  rw[e2]at h1
  rw[e3]at h2
  rw[e2,e3]
  rw[box_at h1 h2]
  simp only
  have:16*(y/16)+(y-16*(y/16))=y:=by omega
  rw[this]
  omega
theorem LaidR.all{W H:Nat}{z g:List Int}(hz:z.length=W*H)(h:LaidR W H z g (nT W H)):g=z:=by
 apply List.ext_getElem (by rw[h.1,hz])
 intro p h1 h2
 have hW : 0 < W := by rcases Nat.eq_zero_or_pos W with e | e
                       · rw [hz, e, Nat.zero_mul] at h2; omega
                       · exact e
 have hp:p/W*W+p%W=p:=by rw[Nat.mul_comm];exact Nat.div_add_mod p W
 have hm:=Nat.mod_lt p hW
 have hy:p/W<H:=Nat.div_lt_of_lt_mul (by omega)
 have h3:p%W/16<cntF W:=by unfold cntF;omega
 have h4:p/W/16<cntF H:=by unfold cntF;omega
 have h5:(p/W/16+1)*cntF W≤cntF H*cntF W:=Nat.mul_le_mul_right _ h4
 have:=h.2 (p%W) (p/W) hm hy (by unfold nT;rw[Nat.add_mul,Nat.one_mul,Nat.mul_comm (cntF H)]at h5;omega)
 rw[hp,List.getD_eq_getElem?_getD,List.getD_eq_getElem?_getD,List.getElem?_eq_getElem h1,List.getElem?_eq_getElem h2]at this
 simpa using this
theorem getD_cut{W x y bw:Nat}{z:List Int}(P:Int→Prop)(h0:P 0)(hz:∀i,P (z.getD i 0)):∀r i,P ((cutTo z W x y bw r).getD i 0)
 | 0,i=>by simpa [cutTo] using h0
 | r+1,i=>by
  rw[cutTo]
  rcases Nat.lt_or_ge i (cutTo z W x y bw r).length with h|h
  ·rw[List.getD_eq_getElem?_getD,List.getElem?_append_left h,← List.getD_eq_getElem?_getD]
   exact getD_cut P h0 hz r i
  ·rw[List.getD_eq_getElem?_getD,List.getElem?_append_right h]
   unfold rowAt
   rw[List.getElem?_take,List.getElem?_drop]
   split
   ·rw[← List.getD_eq_getElem?_getD]
    exact hz _
   ·simpa using h0
theorem in16_cut{z:List Int}(hz:In16 z)(W H i:Nat):In16 (cutN W H z i):=fun k=>getD_cut (fun x=>-32768≤x∧x≤32767) (by decide) hz _ k
open Go.RowKit
section
variable {P:Program} {w0:World} {W:Nat→Prop} {H:List HE}
instance (t:TypeId)(x:Operand)(a:Int):MS P w0 W H (.unOp .xor t x) [.int .u32 a] (.int .u32 (bits .xor .u32 4294967295 a)) True:=⟨fun _ _ _ _ _ _ _ _ _ _ _ _ _ _ h1 h2 h3=>o_val (by simp) rfl h2 (fun a w ha _=>by simp only[execOp,ha.eval (opnds1 rfl h1),Op.unary,Op.intBits];rfl) h3⟩
instance (k:IntKind)(a:List Int)(v1 v2 v3 v4:Int):AppI (ints k a) [.int k v1,.int k v2,.int k v3,.int k v4] (ints k (a++[v1,v2,v3,v4])):=⟨by simp[ints]⟩
end
theorem getD_u8{ys:List Int}(h:U8s ys)(i:Nat):0≤ys.getD i 0∧ys.getD i 0<256:=by
 rcases Nat.lt_or_ge i ys.length with h1|h1
 ·exact h _ (by rw[List.getD_eq_getElem?_getD,List.getElem?_eq_getElem h1];exact List.getElem_mem ..)
 ·rw[List.getD_eq_getElem?_getD,List.getElem?_eq_none h1];simp
theorem step_eq{r:Nat}(hr:r<4294967296):bits .xor .u32 ((r:Int)/2^1) (bits .and .u32 3988292384 (IntKind.u32.wrap (0-bits .and .u32 (r:Int) 1)))=(crcB r:Nat):=by
 have h1:bits .and .u32 (r:Int) 1=((r%2:Nat):Int):=by
  have:=u32_and_nat r 1 hr (by omega)
  rw[nat_mask1]at this
  exact this
 have h2:(r:Int)/2^1=((r/2:Nat):Int):=by omega
 rw[h1,h2]
 unfold crcB
 rcases Nat.mod_two_eq_zero_or_one r with h|h
 ·rw[h,if_neg (by omega)]
  exact u32_xor_nat (r/2) 0 (by omega) (by omega)
 ·rw[h,if_pos rfl]
  exact u32_xor_nat (r/2) 3988292384 (by omega) (by omega)
attribute [local irreducible] OJ J HdJ Code.wpIn wpListIn Oper.wpIn bodyPost CallsIn Does
theorem byteStep_any(r:Nat)(hr:r<4294967296)(w:World):Does Tryz.prog 201 [.int .u32 r] [] w (fun v S'=>v=.int .u32 (crcK 8 r:Nat)∧S'=[]):=by
 refine does_of Tryz.func201 rfl Tryz.ntmps201 rfl ⟨by simp,.nil⟩ (fun n=>?_)
 simp only[slots]
 refine z_gox
 refine c_loop (X:=Nat) (fun i=>i≤8) (fun i=>[(0,.int .u32 (crcK i r:Nat)),(4,.int .i64 i)]) (fun _=>[]) (fun i=>8-i) 0 (by simp) ⟨rfl,rfl,trivial⟩ (.nil _) ?_
 intro i hi
 have hk:=crcK_lt hr i
 have hs:=step_eq hk
 refine z_tas
 ·exact c_round (i+1) (by show i+1≤8;omega) (by show 8-(i+1)<8-i;omega) ⟨by rw[hs];rfl,by simp[look],trivial⟩ (.nil _)
 ·obtain rfl:i=8:=by omega
  exact j_out1 rfl rfl (.nil _) ⟨rfl,rfl⟩
theorem sum_any(A:Option Addr)(c:Nat)(ys:List Int)(w:World)(hr:RoA w (blocks []) A ys.length c 1 (ints .u8 ys))(hu:U8s ys)(hm:ys.length<1000000000):
  Does Tryz.prog 151 [.slice A ys.length c] [] w (fun v S'=>v=.int .u32 (sumY ys:Nat)∧S'=[]):=by
 refine does_of Tryz.func151 rfl Tryz.ntmps151 rfl ⟨by simp,.nil⟩ (fun n=>?_)
 simp only[slots]
 refine z_gox
 refine c_loop (X:=Nat) (fun i=>i≤ys.length) (fun i=>[(3,.int .u32 (crcTo ys 4294967295 i:Nat)),(6,.slice A ys.length c),(7,.int .i64 ys.length),(8,.int .i64 i)]) (fun _=>[]) (fun i=>ys.length-i) 0 (by simp) ⟨rfl,rfl,rfl,rfl,trivial⟩ (.nil _) ?_
 intro i hi
 have hk:=crcTo_lt hu (r:=4294967295) (by omega) i hi
 have hy:=getD_u8 hu i
 rcases Nat.lt_or_ge i ys.length with h|h
 ·obtain⟨bA,oA,rfl,hA⟩:=hr.at_ (by omega:0<ys.length)
  have hx:bits .xor .u32 (crcTo ys 4294967295 i:Nat) (ys.getD i 0)=((crcTo ys 4294967295 i ^^^ (ys.getD i 0).toNat:Nat):Int):=u32_xor _ _ (by omega) (by omega) (by omega) (by omega)
  have hxl:crcTo ys 4294967295 i ^^^ (ys.getD i 0).toNat<4294967296:=Nat.xor_lt_two_pow (n:=32) hk (by omega)
  refine z_tas
  rw[hx]
  refine lfv rfl rfl rfl (fun w _=>byteStep_any _ hxl w) ?_
  refine z_tas
  exact c_round (i+1) (by show i+1≤_;omega) (by show _-(i+1)<_-i;omega) ⟨rfl,rfl,rfl,by simp[look],trivial⟩ (.nil _)
 ·obtain rfl:i=ys.length:=by omega
  have hx:bits .xor .u32 4294967295 (crcTo ys 4294967295 ys.length:Nat)=((4294967295 ^^^ crcTo ys 4294967295 ys.length:Nat):Int):=u32_xor_nat 4294967295 _ (by omega) hk
  refine z_tas
  exact j_out1 rfl rfl (.nil _) ⟨by rw[hx];rfl,rfl⟩
theorem sum_anyM(A:Option Addr)(c m:Nat)(ys:List Int)(w:World)(hl:ys.length=m)(hr:RoA w (blocks []) A m c 1 (ints .u8 ys))(hu:U8s ys)(hm:m<1000000000):
  Does Tryz.prog 151 [.slice A m c] [] w (fun v S'=>v=.int .u32 (sumY ys:Nat)∧S'=[]):=by
 subst hl
 exact sum_any A c ys w hr hu hm
theorem bput_byte(x i:Nat):(x:Int)/2^(8*i)%256=((x/256^i%256:Nat):Int):=by
 rw[pow256];push_cast;rfl
theorem bput_any(A:Option Addr)(c:Nat)(ys:List Int)(x size:Nat)(w:World)(hr:RoA w (blocks []) A ys.length c 1 (ints .u8 ys))(hx:x<18446744073709551616)(hs:size≤8)(hm:ys.length<1000000000):
  Does Tryz.prog 100 [.slice A ys.length c,.int .u64 x,.int .i64 size] [] w (fun v S'=>∃A' c',v=.slice A' (ys++bytesN x size).length c'∧S'=[.row (.slice A' (ys++bytesN x size).length c') 5 1 (ys++bytesN x size).length (ints .u8 (ys++bytesN x size))]):=by
 refine does_of Tryz.func100 rfl Tryz.ntmps100 rfl ⟨by simp,.nil⟩ (fun n=>?_)
 simp only[slots]
 have hbl:=bytesN_len x size
 refine z_gox
 rename_i A0 c0
 refine c_loop (X:=Nat×Option Addr×Nat) (fun q=>q.1≤size) (fun q=>[(1,.int .u64 x),(7,.slice q.2.1 (ys++(bytesN x size).take q.1).length q.2.2),(13,.int .i64 size),(14,.int .i64 q.1)])
  (fun q=>[.row (.slice q.2.1 (ys++(bytesN x size).take q.1).length q.2.2) 5 1 (ys++(bytesN x size).take q.1).length (ints .u8 (ys++(bytesN x size).take q.1))]) (fun q=>size-q.1) (0,A0,c0) (by simp) ⟨rfl,by simp[look],rfl,rfl,trivial⟩ (by simp only[List.take_zero,List.append_nil];exact Sub.au) ?_
 rintro⟨i,A1,c1⟩ hi
 simp only at hi ⊢
 have htl:(ys++(bytesN x size).take i).length=ys.length+i:=by rw[List.length_append,List.length_take];omega
 rcases Nat.lt_or_ge i size with h|h
 ·have hat:=bytesN_take x size i h
  have e8:(8*(i:Int)).toNat=8*i:=by omega
  rw[← bput_byte,← IntKind.wrap_u8',← e8]at hat
  refine z_tas
  rename_i A2 c2
  rw[List.append_assoc,← hat]
  exact c_round (i+1,A2,c2) (by show i+1≤_;omega) (by show _-(i+1)<_-i;omega) ⟨rfl,rfl,rfl,by simp[look],trivial⟩ Sub.au
 ·obtain rfl:i=size:=by omega
  rw[List.take_of_length_le (by omega:(bytesN x i).length≤i)]
  refine z_tas
  exact j_out1 rfl rfl Sub.au ⟨_,_,rfl,rfl⟩
theorem or_step{x y i:Nat}(hx:x<256^i)(hy:y<256)(hi:i<8):bits .or .u64 (x:Int) (IntKind.u64.wrap ((y:Int)*2^min (8*(i:Int)).toNat IntKind.u64.bits))=((x+256^i*y:Nat):Int):=by
 have e1:min (8*(i:Int)).toNat IntKind.u64.bits=8*i:=by simp only[IntKind.bits];omega
 have e2:(y:Int)*2^(8*i)=((256^i*y:Nat):Int):=by rw[pow256];push_cast;rw[Int.mul_comm]
 have h7:256^i≤256^7:=Nat.pow_le_pow_right (by omega) (by omega)
 have h8:256^i*y≤256^i*255:=Nat.mul_le_mul_left _ (by omega)
 rw[e1,e2,wrap_in (by simp only[InR];omega),u64_or_nat _ _ (by omega) (by omega),Nat.or_comm,nat_join (8*i) _ _ (by rw[pow256,Nat.mul_mod_right]) (by rw[← pow256];exact hx),Nat.add_comm]
theorem leY_succ{ys:List Int}{a i:Nat}(h:a+i<ys.length):leY ys a (i+1)=leY ys a i+256^i*(ys.getD (a+i) 0).toNat:=by
 unfold leY seg
 have e:(ys.drop a).take (i+1)=(ys.drop a).take i++[ys.getD (a+i) 0]:=by
  rw[List.take_succ_eq_append_getElem (by rw[List.length_drop];omega),List.getElem_drop,List.getD_eq_getElem?_getD,List.getElem?_eq_getElem h]
  rfl
 rw[e,numY_app,List.length_take,List.length_drop,Nat.min_eq_left (by omega)]
 simp[numY]
theorem bget_any(A:Option Addr)(c:Nat)(ys:List Int)(at_ size:Nat)(w:World)(hr:RoA w (blocks []) A ys.length c 1 (ints .u8 ys))(hu:U8s ys)(hs:size≤8)(ha:at_+size≤ys.length)(hm:ys.length<1000000000):
  Does Tryz.prog 150 [.slice A ys.length c,.int .i64 at_,.int .i64 size] [] w (fun v S'=>v=.tuple #[.int .u64 (leY ys at_ size:Nat),.int .i64 0]∧S'=[]):=by
 refine does_of Tryz.func150 rfl Tryz.ntmps150 rfl ⟨by simp,.nil⟩ (fun n=>?_)
 simp only[slots]
 refine z_tas
 refine c_loop (X:=Nat) (fun i=>i≤size) (fun i=>[(0,.slice A ys.length c),(1,.int .i64 at_),(8,.int .u64 (leY ys at_ i:Nat)),(34,.int .i64 size),(35,.int .i64 i)]) (fun _=>[]) (fun i=>size-i) 0 (by simp) ⟨rfl,rfl,by simp[look,leY,seg,numY],rfl,rfl,trivial⟩ (.nil _) ?_
 intro i hi
 rcases Nat.lt_or_ge i size with h|h
 ·obtain⟨bA,oA,rfl,hA⟩:=hr.at_ (by omega:0<ys.length)
  have hlt:=leY_lt hu (a:=at_) (n:=i) (by omega)
  have hy:=getD_u8 hu ((at_:Int)+i).toNat
  have ee:((at_:Int)+i).toNat=at_+i:=by omega
  have hor:=or_step hlt (y:=(ys.getD (at_+i) 0).toNat) (i:=i) (by rw[← ee];omega) (by omega)
  rw[Int.toNat_of_nonneg (by rw[← ee];omega),← leY_succ (by omega),← ee]at hor
  refine z_tas
  exact c_round (i+1) (by show i+1≤_;omega) (by show _-(i+1)<_-i;omega) ⟨rfl,rfl,by simp only[look];first|(rw[hor];rfl)|(simp;exact hor),rfl,by simp[look],trivial⟩ (.nil _)
 ·obtain rfl:i=size:=by omega
  refine z_tas
  exact j_out2 rfl rfl rfl (.nil _) ⟨rfl,rfl⟩
theorem crcput_any(A:Option Addr)(c:Nat)(ys:List Int)(w:World)(hr:RoA w (blocks []) A ys.length c 1 (ints .u8 ys))(hu:U8s ys)(hm:ys.length<1000000000):
  Does Tryz.prog 99 [.slice A ys.length c] [] w (fun v S'=>∃A' c',v=.slice A' (crcP ys).length c'∧S'=[.row (.slice A' (crcP ys).length c') 5 1 (crcP ys).length (ints .u8 (crcP ys))]):=by
 have hsl:=sumY_lt hu
 have hb:ys++[IntKind.u8.wrap (sumY ys:Nat),IntKind.u8.wrap ((sumY ys:Nat)/2^8),IntKind.u8.wrap ((sumY ys:Nat)/2^16),((sumY ys:Nat):Int)/2^24]=crcP ys:=by
  unfold crcP
  congr 1
  simp only[bytesN,List.range_succ,List.range_zero,List.nil_append,List.cons_append,List.map_cons,List.map_nil,IntKind.wrap_u8']
  simp only[List.cons.injEq,and_true]
  omega
 refine does_of Tryz.func99 rfl Tryz.ntmps99 rfl ⟨by simp,.nil⟩ (fun n=>?_)
 simp only[slots]
 refine z_gox
 refine lfv rfl rfl rfl (fun w hw=>sum_any A c ys w ⟨hr.h.go hw (Split.nil _)⟩ hu hm) ?_
 refine z_gox
 rw[hb]
 exact j_out1 rfl rfl (.cons (.there _ (.here _ _)) (.nil _)) ⟨_,_,rfl,rfl⟩
theorem crc_get{ys:List Int}{m:Nat}(hl:ys.length=m+4):crcOk ys↔∀i,i<4→ys.getD (m+i) 0=((sumY (ys.take m)/256^i%256:Nat):Int):=by
 unfold crcOk
 rw[show ys.length-4=m by omega]
 constructor
 ·rintro⟨-,h⟩ i hi
  rw[← bytesN_get _ 4 i hi,← h]
  simp[List.getD_eq_getElem?_getD]
 ·intro h
  refine⟨by omega,List.ext_getElem (by rw[List.length_drop,bytesN_len];omega) fun i h1 h2=>?_⟩
  have hi:i<4:=by rw[bytesN_len]at h2;exact h2
  have:=h i hi
  rw[← bytesN_get _ 4 i hi,List.getD_eq_getElem?_getD,List.getD_eq_getElem?_getD,List.getElem?_eq_getElem (by omega),List.getElem?_eq_getElem h2]at this
  rw[List.getElem_drop]
  simpa using this
theorem crcget_any(A:Option Addr)(c n:Nat)(ys:List Int)(w:World)(hl:ys.length=n)(hr:RoA w (blocks []) A n c 1 (ints .u8 ys))(hu:U8s ys)(hm:n<1000000000):
  Does Tryz.prog 90 [.slice A n c] [] w (fun v S'=>(crcOk ys∧∃A' c',v=.tuple #[.slice A' (ys.take (n-4)).length c',.bool true]∧S'=[.row (.slice A' (ys.take (n-4)).length c') 5 1 (ys.take (n-4)).length (ints .u8 (ys.take (n-4)))])∨(¬crcOk ys∧v=.tuple #[.slice none 0 0,.bool false]∧S'=[])):=by
 subst hl
 refine does_of Tryz.func90 rfl Tryz.ntmps90 rfl ⟨by simp,.nil⟩ (fun n=>?_)
 simp only[slots]
 rcases Nat.lt_or_ge ys.length 4 with h|h
 ·refine z_gob
  exact j_out2 rfl rfl rfl (.nil _) (.inr ⟨fun e=>by have:=e.1;omega,rfl,rfl⟩)
 have hcl:ys.length≤c:=by obtain⟨_,_,e,q1,-⟩:=hr.h;injection e with _ _ e;omega
 obtain⟨m,hm2⟩:∃m,ys.length=m+4:=⟨ys.length-4,by omega⟩
 have hcg:=crc_get hm2
 have hmm:(ys.length:Int)-4=(m:Nat):=by omega
 have hm4:ys.length-4=m:=by omega
 have htl:(ys.take m).length=m:=by rw[List.length_take];omega
 have hsl:=sumY_lt (ys:=ys.take m) (fun x hx=>hu x (List.mem_of_mem_take hx))
 rw[hm4]
 refine z_tas
 refine j_set 13 _ rfl (v':=.int .i64 (m:Nat)) (by rw[hmm]) ?_
 refine j_set 4 _ rfl (v':=.int .i64 (m:Nat)) (by rw[hmm]) ?_
 refine j_sub 0 m hr (by omega) fun hr0=>?_
 rw[List.drop_zero,Nat.sub_zero]at hr0
 refine z_tas
 refine lfv rfl rfl rfl (fun w hw=>sum_anyM _ _ m (ys.take m) w htl ⟨hr0.h.go hw (Split.nil _)⟩ (fun x hx=>hu x (List.mem_of_mem_take hx)) (by omega)) ?_
 refine z_tas
 refine c_loop (X:=Nat) (fun i=>i≤4∧∀j,j<i→ys.getD (m+j) 0=((sumY (ys.take m)/256^j%256:Nat):Int)) (fun i=>[(0,.slice A ys.length c),(4,.int .i64 m),(5,.int .u32 (sumY (ys.take m):Nat)),(16,.int .i64 i)]) (fun _=>[]) (fun i=>4-i) 0 ⟨by simp,fun j hj=>by omega⟩ ⟨rfl,rfl,rfl,rfl,trivial⟩ (.nil _) ?_
 rintro i ⟨hi,hjs⟩
 obtain⟨bA,oA,rfl,hA⟩:=hr.at_ (by omega:0<ys.length)
 have e8:(8*(i:Int)).toNat=8*i:=by omega
 have em:((m:Int)+i).toNat=m+i:=by omega
 have hby:=bput_byte (sumY (ys.take m)) i
 rw[← IntKind.wrap_u8',← e8]at hby
 have hji:=hjs
 refine z_tas
 ·rename_i hne
  rw[em,hby]at hne
  exact j_out2 rfl rfl rfl (.nil _) (.inr ⟨fun e=>hne (hcg.1 e i (by omega)),rfl,rfl⟩)
 ·rename_i hne
  rw[em,hby]at hne
  refine c_round (i+1) ⟨by omega,fun j hj=>?_⟩ (by show 4-(i+1)<4-i;omega) ⟨rfl,rfl,rfl,by simp[look],trivial⟩ (.nil _)
  rcases Nat.lt_or_ge j i with h1|h1
  ·exact hjs j h1
  ·obtain rfl:j=i:=by omega
   exact Decidable.of_not_not hne
 ·exact j_out2 rfl rfl rfl Sub.au (.inl ⟨hcg.2 fun j hj=>hjs j (by omega),_,_,rfl,rfl⟩)
theorem chnum_any(A:Option Addr)(c:Nat)(ys:List Int)(at_ size:Nat)(w:World)(hr:RoA w (blocks []) A ys.length c 1 (ints .u8 ys))(hu:U8s ys)(hs:size≤4)(ha:at_+size≤ys.length)(hm:ys.length<1000000000):
  Does Tryz.prog 88 [.slice A ys.length c,.int .i64 at_,.int .i64 size] [] w (fun v S'=>v=.int .i64 (leY ys at_ size:Nat)∧S'=[]):=by
 have hlt:=leY_lt hu ha
 have h4:256^size≤256^4:=Nat.pow_le_pow_right (by omega) hs
 refine does_of Tryz.func88 rfl Tryz.ntmps88 rfl ⟨by simp,.nil⟩ (fun n=>?_)
 simp only[slots]
 refine z_gox
 refine lfv rfl rfl rfl (fun w hw=>bget_any A c ys at_ size w ⟨hr.h.go hw (Split.nil _)⟩ hu (by omega) ha hm) ?_
 refine z_tas
 exact j_out1 rfl rfl (.nil _) ⟨rfl,rfl⟩
def placesTo(W k:Nat):List (Int×Int):=(List.range k).map fun i=>(tX W i,tY W i)
theorem placesTo_len(W k:Nat):(placesTo W k).length=k:=by simp[placesTo]
theorem placesTo_succ(W k:Nat):placesTo W (k+1)=placesTo W k++[(tX W k,tY W k)]:=by simp[placesTo,List.range_succ]
theorem placesTo_get(W k i:Nat)(h:i<k):(placesTo W k).getD i default=(tX W i,tY W i):=by simp[placesTo,List.getD_eq_getElem?_getD,h]
theorem tXY{W x y:Nat}(h:x<cntF W):tX W (y*cntF W+x)=x∧tY W (y*cntF W+x)=y:=by
 unfold tX tY
 rw[Nat.add_comm,Nat.mul_comm,Nat.add_mul_mod_self_left,Nat.mod_eq_of_lt h,Nat.add_mul_div_left _ _ (by omega),Nat.div_eq_of_lt h,Nat.zero_add]
 exact⟨rfl,rfl⟩
def chkC(W H:Int)(z:List Int)(cell:Int):Int:=if chkF W H z≠0 then chkF W H z else if cell<1∨1000<cell then 1 else 0
instance (priority:=2000) (P:Program)(s t:TypeId)(x:Operand)(a:Int)(dd:TypeDesc)[hs:Und P s dd][ht:Und P t (.int .u32)]:PV P (.convert s t x) [.int .i32 a] (.int .u32 (u32N a:Nat)) True:=⟨by
 rintro hc ρ ⟨dst,op',ty,pos,aft,gd⟩ rfl h w
 have e:IntKind.u32.wrap a=(u32N a:Nat):=by unfold u32N;rw[IntKind.wrap_u32'];omega
 simp[execOp,map1 h,convert,run_underlying hs.h,run_underlying ht.h,Conv.intToInt,e]⟩
theorem chkc_any(W H:Int)(A:Option Addr)(c:Nat)(z:List Int)(cell ox oy:Int)(w:World):
  Does Tryz.prog 95 [.agg #[.int .i64 W,.int .i64 H,.slice A z.length c,.int .i64 cell,.int .i32 ox,.int .i32 oy]] [] w (fun v S'=>v=.int .i64 (chkC W H z cell)∧S'=[]):=by
 refine does_of Tryz.func95 rfl Tryz.ntmps95 rfl ⟨by simp,.nil⟩ (fun n=>?_)
 simp only[slots]
 unfold chkC
 refine z_tas
 refine lfv rfl rfl rfl (fun w _=>chk_any W H A c z w) ?_
 refine z_tas
 ·exact j_out1 rfl rfl (.nil _) ⟨by rw[if_pos (by assumption)],rfl⟩
 ·exact j_out1 rfl rfl (.nil _) ⟨by rw[if_neg (by assumption),if_pos (by omega)],rfl⟩
 ·exact j_out1 rfl rfl (.nil _) ⟨by rw[if_neg (by assumption),if_pos (by omega)],rfl⟩
 ·exact j_out1 rfl rfl (.nil _) ⟨by rw[if_neg (by assumption),if_neg (by omega)],rfl⟩
theorem places_any(W H:Nat)(w:World)(hm:W≤256∧H≤256):
  Does Tryz.prog 49 [.int .i64 W,.int .i64 H] [] w (fun v S'=>∃A' c',v=.slice A' (placesTo W (nT W H)).length c'∧S'=[.row (.slice A' (placesTo W (nT W H)).length c') 134 2 (placesTo W (nT W H)).length (flat spotE (placesTo W (nT W H)))]):=by
 refine does_of Tryz.func49 rfl Tryz.ntmps49 rfl ⟨by simp,.nil⟩ (fun n=>?_)
 simp only[slots]
 have hcW:=cnt_le hm.1
 have hcH:=cnt_le hm.2
 refine j_nil (e:=134) (size:=2) ?_
 refine z_tas
 refine lfv rfl rfl rfl (fun w _=>cnt_any H w (by omega)) ?_
 refine z_tas
 refine c_loop (X:=Nat×Option Addr×Nat) (fun q=>q.1≤cntF H) (fun q=>[(0,.int .i64 W),(5,.slice q.2.1 (placesTo W (q.1*cntF W)).length q.2.2),(9,.int .i64 (cntF H:Nat)),(10,.int .i64 q.1)])
  (fun q=>[.row (.slice q.2.1 (placesTo W (q.1*cntF W)).length q.2.2) 134 2 (placesTo W (q.1*cntF W)).length (flat spotE (placesTo W (q.1*cntF W)))]) (fun q=>cntF H-q.1) (0,none,0) (by simp) ⟨rfl,by simp[look,placesTo],rfl,rfl,trivial⟩ (by simp only[Nat.zero_mul];exact Sub.refl _) ?_
 rintro⟨y,A1,c1⟩ hy
 simp only at hy ⊢
 rcases Nat.lt_or_ge y (cntF H) with h|h
 ·refine z_gob
  refine lfv rfl rfl rfl (fun w _=>cnt_any W w (by omega)) ?_
  refine z_tas
  have hyW:(y+1)*cntF W≤16*16:=Nat.mul_le_mul (by omega) hcW
  rw[Nat.add_mul,Nat.one_mul]at hyW
  refine c_loop (X:=Nat×Option Addr×Nat) (fun q=>q.1≤cntF W) (fun q=>[(0,.int .i64 W),(5,.slice q.2.1 (placesTo W (y*cntF W+q.1)).length q.2.2),(6,.int .i64 y),(9,.int .i64 (cntF H:Nat)),(10,.int .i64 y),(14,.int .i64 (cntF W:Nat)),(15,.int .i64 q.1)])
   (fun q=>[.row (.slice q.2.1 (placesTo W (y*cntF W+q.1)).length q.2.2) 134 2 (placesTo W (y*cntF W+q.1)).length (flat spotE (placesTo W (y*cntF W+q.1)))]) (fun q=>cntF W-q.1) (0,A1,c1) (by simp) ⟨rfl,rfl,rfl,rfl,rfl,rfl,rfl,trivial⟩ (Sub.refl _) ?_
  rintro⟨x,A2,c2⟩ hx
  simp only at hx ⊢
  have hpl:=placesTo_len W (y*cntF W+x)
  rcases Nat.lt_or_ge x (cntF W) with h2|h2
  ·have hps:=placesTo_succ W (y*cntF W+x)
   rw[(tXY h2).1,(tXY h2).2]at hps
   refine z_tas
   rename_i A3 c3
   rw[← hps]
   exact c_round (x+1,A3,c3) (by show x+1≤_;omega) (by show _-(x+1)<_-x;omega) ⟨rfl,rfl,rfl,rfl,rfl,rfl,by simp[look],trivial⟩ Sub.au
  ·obtain rfl:x=cntF W:=by omega
   refine z_tas
   exact c_round (y+1,A2,c2) (by show y+1≤_;omega) (by show _-(y+1)<_-y;omega) ⟨rfl,by simp only[Nat.add_mul,Nat.one_mul];rfl,rfl,by simp[look],trivial⟩ (by simp only[Nat.add_mul,Nat.one_mul];exact Sub.au)
 ·obtain rfl:y=cntF H:=by omega
  refine z_tas
  have e:nT W H=cntF H*cntF W:=Nat.mul_comm _ _
  rw[e]
  exact j_out1 rfl rfl (Sub.refl _) ⟨_,_,rfl,rfl⟩
theorem head_any(W H:Nat)(w:World)(hm:W≤256∧H≤256):
  Does Tryz.prog 89 [.int .i64 W,.int .i64 H] [] w (fun v S'=>v=.int .i64 (headN W H:Nat)∧S'=[]):=by
 refine does_of Tryz.func89 rfl Tryz.ntmps89 rfl ⟨by simp,.nil⟩ (fun n=>?_)
 simp only[slots]
 have hn:=nT_le hm
 have hcW:=cnt_le hm.1
 have hcH:=cnt_le hm.2
 have e:(6*(cntF W:Int))*(cntF H:Int)=((6*nT W H:Nat):Int):=by unfold nT;push_cast;rw[Int.mul_assoc]
 refine z_tas
 refine lfv rfl rfl rfl (fun w _=>cnt_any W w (by omega)) ?_
 refine z_tas
 refine lfv rfl rfl rfl (fun w _=>cnt_any H w (by omega)) ?_
 refine z_tas
 refine j_out1 rfl rfl (.nil _) ⟨?_,rfl⟩
 rw[e]
 unfold headN
 congr 1
 omega
theorem header_any(W H cell:Nat)(A:Option Addr)(c m:Nat)(ox oy:Int)(w:World)(hm:W≤256∧H≤256∧cell≤1000)(hox:InR .i32 ox)(hoy:InR .i32 oy):
  Does Tryz.prog 96 [.agg #[.int .i64 W,.int .i64 H,.slice A m c,.int .i64 cell,.int .i32 ox,.int .i32 oy]] [] w (fun v S'=>∃A' c',v=.slice A' (hdrB W H cell ox oy).length c'∧S'=[.row (.slice A' (hdrB W H cell ox oy).length c') 5 1 (hdrB W H cell ox oy).length (ints .u8 (hdrB W H cell ox oy))]):=by
 refine does_of Tryz.func96 rfl Tryz.ntmps96 rfl ⟨by simp,.nil⟩ (fun n=>?_)
 simp only[slots]
 refine z_tas
 refine lf rfl rfl rfl (S:=[]) (fun w hw ho=>bput_any none 0 [] 1296978516 4 w ⟨Ro.nil _ _ _⟩ (by decide) (by decide) (by decide)) ?_
 rintro v S' ⟨A1,c1,rfl,rfl⟩
 refine z_tas
 refine c_drx _ [false,true,true,true,true,false,true,true,true,true,false,false] [0,5,10,11] (Sub.refl _) rfl (by decide) (by decide +kernel) ?_
 refine z_gob
 refine lf rfl rfl rfl (S:=[]) (fun w hw ho=>bput_any A1 c1 (bytesN 1296978516 4) W 2 w ⟨Ro.row hw (Split.nil _) (by refine z_hs)⟩ (by omega) (by decide) (by rw[bytesN_len];decide)) ?_
 rintro v S' ⟨A2,c2,rfl,rfl⟩
 have hl2:=bytesN_len W 2
 have hl3:=bytesN_len H 2
 have hl4:=bytesN_len 1296978516 4
 refine z_gob
 refine lf rfl rfl rfl (S:=[]) (fun w hw ho=>bput_any A2 c2 (bytesN 1296978516 4++bytesN W 2) H 2 w ⟨Ro.row hw (Split.nil _) (by refine z_hs)⟩ (by omega) (by decide) (by rw[List.length_append];omega)) ?_
 rintro v S' ⟨A3,c3,rfl,rfl⟩
 refine z_gob
 refine lf rfl rfl rfl (S:=[]) (fun w hw ho=>bput_any A3 c3 (bytesN 1296978516 4++bytesN W 2++bytesN H 2) cell 2 w ⟨Ro.row hw (Split.nil _) (by refine z_hs)⟩ (by omega) (by decide) (by simp only[List.length_append];omega)) ?_
 rintro v S' ⟨A4,c4,rfl,rfl⟩
 have hl5:=bytesN_len cell 2
 have hl6:=bytesN_len (u32N ox) 4
 refine z_tas
 have hu1:=u32N_lt ox
 have hu2:=u32N_lt oy
 refine c_drx _ [false,true,true,true,true,false,true,true,true,true,false,false] [0,5,10,11] (Sub.refl _) rfl (by decide) (by decide +kernel) ?_
 refine z_gob
 refine lf rfl rfl rfl (S:=[]) (fun w hw ho=>bput_any A4 c4 (bytesN 1296978516 4++bytesN W 2++bytesN H 2++bytesN cell 2) (u32N ox) 4 w ⟨Ro.row hw (Split.nil _) (by refine z_hs)⟩ (by have:=u32N_lt ox;omega) (by decide) (by simp only[List.length_append];omega)) ?_
 rintro v S' ⟨A5,c5,rfl,rfl⟩
 refine z_gob
 refine lf rfl rfl rfl (S:=[]) (fun w hw ho=>bput_any A5 c5 (bytesN 1296978516 4++bytesN W 2++bytesN H 2++bytesN cell 2++bytesN (u32N ox) 4) (u32N oy) 4 w ⟨Ro.row hw (Split.nil _) (by refine z_hs)⟩ (by have:=u32N_lt oy;omega) (by decide) (by simp only[List.length_append];omega)) ?_
 rintro v S' ⟨A6,c6,rfl,rfl⟩
 refine z_gob
 exact j_out1 rfl rfl (.cons (.here _ _) (.nil _)) ⟨_,_,rfl,rfl⟩
theorem tXY_in{W H i:Nat}(hm:W≤256∧H≤256)(hi:i<nT W H):InR .i64 (tX W i)∧InR .i64 (tY W i):=by
 obtain⟨h1,h2⟩:=tile_in hi
 have:=cnt_le hm.1
 have:=cnt_le hm.2
 unfold tX tY
 generalize i%cntF W=x at *
 generalize i/cntF W=y at *
 simp only[InR]
 omega
theorem chk_ok{W H cell:Nat}{z:List Int}(hW:2≤W∧W≤256∧2≤H∧H≤256∧1≤cell∧cell≤1000)(hz:z.length=W*H):chkC W H z cell=0:=by
 have h:chkF W H z=0:=by
  unfold chkF
  rw[if_neg (by omega),if_pos (by rw[hz];push_cast;rfl)]
 unfold chkC
 rw[h,if_neg (by simp),if_neg (by omega)]
theorem tile_put{W H i:Nat}{z:List Int}(hi:i<nT W H)(hz:z.length=W*H):putB (tilW W H i:Nat) (tilH W H i:Nat) (cutN W H z i)=some (rawB (tilW W H i) (cutN W H z i))∧putC (tilW W H i:Nat) (tilH W H i:Nat) (cutN W H z i)=0:=by
 have hb:=tile_box hi
 have h:=putB_ok (a:=(tilW W H i:Nat)) (b:=(tilH W H i:Nat)) (z:=cutN W H z i) ⟨(rightB_iff _ _).2 (by omega),by rw[cutN_len hz];push_cast;rfl⟩
 rw[Int.toNat_natCast]at h
 exact h
theorem tilput_any(A:Option Addr)(c W H:Nat)(z:List Int)(i:Nat)(w:World)(hr:RoA w (blocks []) A (rawB (tilW W H i) (cutN W H z i)).length c 1 (ints .u8 (rawB (tilW W H i) (cutN W H z i))))(hm:(rawB (tilW W H i) (cutN W H z i)).length<1000000000):
  Does Tryz.prog 99 [.slice A (rawB (tilW W H i) (cutN W H z i)).length c] [] w (fun v S'=>∃A' c',v=.slice A' (tilB W H z i).length c'∧S'=[.row (.slice A' (tilB W H z i).length c') 5 1 (tilB W H z i).length (ints .u8 (tilB W H z i))]):=crcput_any A c _ w hr (raw_u8 _ _) hm
theorem cput_ok(W H cell:Nat)(A:Option Addr)(c:Nat)(z:List Int)(ox oy:Int)(w:World)(hr:RoA w (blocks []) A z.length c 1 (ints .i16 z))(hW:2≤W∧W≤256∧2≤H∧H≤256∧1≤cell∧cell≤1000)(hz:z.length=W*H)(hin:In16 z)(hox:InR .i32 ox)(hoy:InR .i32 oy):
  Does Tryz.prog 53 [.agg #[.int .i64 W,.int .i64 H,.slice A z.length c,.int .i64 cell,.int .i32 ox,.int .i32 oy]] [] w (fun v S'=>∃A' c',v=.tuple #[.slice A' (chartB W H cell ox oy z).length c',.int .i64 0]∧S'=[.row (.slice A' (chartB W H cell ox oy z).length c') 5 1 (chartB W H cell ox oy z).length (ints .u8 (chartB W H cell ox oy z))]):=by
 have hchk:=chk_ok hW hz
 have hn:=nT_le (W:=W) (H:=H) (by omega)
 have hhn:headN W H≤2000:=by unfold headN;omega
 have hpl:=placesTo_len W (nT W H)
 refine does_of Tryz.func53 rfl Tryz.ntmps53 rfl ⟨by simp,.nil⟩ (fun n=>?_)
 simp only[slots]
 refine z_tas
 refine lfv rfl rfl rfl (fun w _=>chkc_any W H A c z cell ox oy w) ?_
 rw[hchk]
 refine z_tas
 rename_i b1
 refine lf rfl rfl rfl (S:=[]) (fun w hw ho=>header_any W H cell A c z.length ox oy w (by omega) hox hoy) ?_
 rintro v S' ⟨Ah,ch,rfl,rfl⟩
 refine z_tas
 refine lfv rfl rfl rfl (fun w _=>head_any W H w (by omega)) ?_
 refine z_tas
 refine lf rfl rfl rfl (S:=[]) (fun w hw ho=>places_any W H w (by omega)) ?_
 rintro v S' ⟨Ap,cp,rfl,rfl⟩
 refine j_nil (e:=5) (size:=1) ?_
 refine z_tas
 refine c_loop (X:=Nat×(Option Addr×Nat)×(Option Addr×Nat)) (fun q=>q.1≤nT W H)
  (fun q=>[(1,.pointer (some ⟨b1,0,none⟩)),(5,.slice q.2.1.1 (dirTo W H cell ox oy z q.1).length q.2.1.2),(6,.slice q.2.2.1 (bodyTo W H z q.1).length q.2.2.2),(7,.int .i64 (headN W H:Nat)),(36,.slice Ap (placesTo W (nT W H)).length cp),(37,.int .i64 (placesTo W (nT W H)).length),(38,.int .i64 q.1)])
  (fun q=>[.row (.slice q.2.1.1 (dirTo W H cell ox oy z q.1).length q.2.1.2) 5 1 (dirTo W H cell ox oy z q.1).length (ints .u8 (dirTo W H cell ox oy z q.1)),.row (.slice q.2.2.1 (bodyTo W H z q.1).length q.2.2.2) 5 1 (bodyTo W H z q.1).length (ints .u8 (bodyTo W H z q.1)),
   .row (.slice Ap (placesTo W (nT W H)).length cp) 134 2 (placesTo W (nT W H)).length (flat spotE (placesTo W (nT W H))),.blk b1 43 [.int .i64 W,.int .i64 H,.slice A z.length c,.int .i64 cell,.int .i32 ox,.int .i32 oy]]) (fun q=>nT W H-q.1) (0,(Ah,ch),(none,0)) (by simp) ⟨rfl,rfl,rfl,rfl,rfl,rfl,rfl,trivial⟩ ?_ ?_
 ·exact(Sub.cons (.there _ (.there _ (.here _ _))) (Sub.cons (.here _ _) (Sub.cons (.here _ _) (Sub.cons (.here _ _) (Sub.nil _)))))
 rintro⟨i,⟨Ah,ch⟩,⟨Ab,cb⟩⟩ hi
 simp only at hi ⊢
 have hdl:=dirTo_len W H cell ox oy z i
 have hbl:=bodyTo_len hz i
 rcases Nat.lt_or_ge i (nT W H) with h|h
 ·have hpg:=placesTo_get W _ i h
  have htl:=tilB_len (i:=i) hz
  obtain⟨hX,hY⟩:=tXY_in (by omega) h
  obtain⟨hp1,hp2⟩:=tile_put h hz
  have hcl:=cutN_le (i:=i) hz
  have hci:=in16_cut hin W H i
  have hrl:=raw_len (tilW W H i) _ hcl
  have hdu:=dirTo_u8 W H cell ox oy z i
  refine z_tas
  simp only[hpg]
  refine lfv rfl rfl rfl (fun w _=>box_any W H (tX W i) (tY W i) w hX hY (by omega)) ?_
  refine z_tas
  refine lf rfl rfl rfl (S:=[]) (fun w hw ho=>cut_any W H A c z (tX W i) (tY W i) w ⟨hr.h.go hw (Split.nil _)⟩ hX hY (by omega) hz) ?_
  rintro v S' ⟨A2,c2,rfl,rfl⟩
  refine z_tas
  refine lf rfl rfl rfl (S:=[]) (fun w hw ho=>put8_any A2 c2 (cutN W H z i) (tilW W H i:Nat) (tilH W H i:Nat) w ⟨Ro.row hw (Split.nil _) (by refine z_hs)⟩ hci (by omega)) ?_
  rintro v S' ⟨A3,c3,rfl,rfl⟩
  rw[hp1,hp2,Option.getD_some]
  refine z_tas
  refine lf rfl rfl rfl (S:=[]) (fun w hw ho=>tilput_any A3 c3 W H z i w ⟨Ro.row hw (Split.nil _) (by refine z_hs)⟩ (by omega)) ?_
  rintro v S' ⟨A4,c4,rfl,rfl⟩
  generalize htb:tilB W H z i=tb at *
  refine z_tas
  refine j_set 75 _ rfl (v':=.int .u64 (headN W H+(bodyTo W H z i).length:Nat)) (by push_cast;rfl) ?_
  refine lf rfl rfl rfl (S:=[]) (fun w hw ho=>bput_any Ah ch (dirTo W H cell ox oy z i) (headN W H+(bodyTo W H z i).length) 4 w ⟨Ro.row hw (Split.nil _) (by refine z_hs)⟩ (by unfold headN;omega) (by omega) (by omega)) ?_
  rintro v S' ⟨A5,c5,rfl,rfl⟩
  have hl5:=bytesN_len (headN W H+(bodyTo W H z i).length) 4
  refine z_tas
  refine lf rfl rfl rfl (S:=[]) (fun w hw ho=>bput_any A5 c5 (dirTo W H cell ox oy z i++bytesN (headN W H+(bodyTo W H z i).length) 4) tb.length 2 w ⟨Ro.row hw (Split.nil _) (by refine z_hs)⟩ (by omega) (by omega) (by rw[List.length_append];omega)) ?_
  rintro v S' ⟨A6,c6,rfl,rfl⟩
  refine z_tas
  rename_i A7 c7
  subst htb
  exact c_round (i+1,(A6,c6),(A7,c7)) (by show i+1≤_;omega) (by show _-(i+1)<_-i;omega) ⟨rfl,rfl,rfl,rfl,rfl,rfl,by simp[look],trivial⟩ (by simp only[dirTo,bodyTo];exact Sub.au)
 ·obtain rfl:i=nT W H:=by omega
  have hdu:=dirTo_u8 W H cell ox oy z (nT W H)
  have hcl:=crcP_len (dirTo W H cell ox oy z (nT W H))
  refine z_tas
  refine lf rfl rfl rfl (S:=[]) (fun w hw ho=>crcput_any Ah ch (dirTo W H cell ox oy z (nT W H)) w ⟨Ro.row hw (Split.nil _) (by refine z_hs)⟩ hdu (by omega)) ?_
  rintro v S' ⟨A4,c4,rfl,rfl⟩
  refine z_tas
  exact j_out2 rfl rfl rfl (.cons (.here _ _) (.nil _)) ⟨_,_,rfl,rfl⟩
def i32N(x:Nat):Int:=IntKind.i32.wrap (x:Int)
def atL(ys:List Int)(k:Nat):List Int:=(List.range k).map fun i=>((atY ys i:Nat):Int)
def szL(ys:List Int)(k:Nat):List Int:=(List.range k).map fun i=>((szY ys i:Nat):Int)
theorem atL_len(ys:List Int)(k:Nat):(atL ys k).length=k:=by simp[atL]
theorem szL_len(ys:List Int)(k:Nat):(szL ys k).length=k:=by simp[szL]
theorem atL_succ(ys:List Int)(k:Nat):atL ys (k+1)=atL ys k++[((atY ys k:Nat):Int)]:=by simp[atL,List.range_succ]
theorem szL_succ(ys:List Int)(k:Nat):szL ys (k+1)=szL ys k++[((szY ys k:Nat):Int)]:=by simp[szL,List.range_succ]
theorem atL_get(ys:List Int)(k i:Nat)(h:i<k):(atL ys k).getD i 0=((atY ys i:Nat):Int):=by simp[atL,List.getD_eq_getElem?_getD,h]
theorem szL_get(ys:List Int)(k i:Nat)(h:i<k):(szL ys k).getD i 0=((szY ys i:Nat):Int):=by simp[szL,List.getD_eq_getElem?_getD,h]
def OpenR(ys:List Int)(v:Value)(S':List HE):Prop :=
 (openC ys=0∧∃A1 c1 A2 c2,v=.tuple #[.agg #[.int .i64 (wY ys:Nat),.int .i64 (hY ys:Nat),.slice none 0 0,.int .i64 (cellY ys:Nat),.int .i32 (i32N (leY ys 10 4)),.int .i32 (i32N (leY ys 14 4)),.slice A1 (atL ys (nY ys)).length c1,.slice A2 (szL ys (nY ys)).length c2],.int .i64 0] ∧
  S'=[.row (.slice A1 (atL ys (nY ys)).length c1) 3 1 (atL ys (nY ys)).length (ints .i64 (atL ys (nY ys))),.row (.slice A2 (szL ys (nY ys)).length c2) 3 1 (szL ys (nY ys)).length (ints .i64 (szL ys (nY ys)))]) ∨
 (openC ys≠0∧v=.tuple #[.agg #[.int .i64 0,.int .i64 0,.slice none 0 0,.int .i64 0,.int .i32 0,.int .i32 0,.slice none 0 0,.slice none 0 0],.int .i64 (openC ys)]∧S'=[])
theorem open_any(A:Option Addr)(c:Nat)(ys:List Int)(w:World)(hr:RoA w (blocks []) A ys.length c 1 (ints .u8 ys))(hu:U8s ys)(hm:ys.length<100000000):
  Does Tryz.prog 48 [.slice A ys.length c] [] w (OpenR ys):=by
 refine does_of Tryz.func48 rfl Tryz.ntmps48 rfl ⟨by simp,.nil⟩ (fun n=>?_)
 simp only[slots]
 have hcl:ys.length≤c:=by obtain⟨_,_,e,q1,-⟩:=hr.h;injection e with _ _ e;omega
 rcases Nat.lt_or_ge ys.length 18 with h18|h18
 ·have hoc:openC ys=5:=if_pos h18
  refine z_tas
  refine z_ro
  exact .inr ⟨by omega,by rw[hoc];rfl,rfl⟩
 have hl0:=leY_lt hu (a:=0) (n:=4) (by omega)
 have hl4:=leY_lt hu (a:=4) (n:=2) (by omega)
 have hl6:=leY_lt hu (a:=6) (n:=2) (by omega)
 have hl8:=leY_lt hu (a:=8) (n:=2) (by omega)
 have hl10:=leY_lt hu (a:=10) (n:=4) (by omega)
 have hl14:=leY_lt hu (a:=14) (n:=4) (by omega)
 refine z_tas
 refine lfv rfl rfl rfl (fun w hw=>chnum_any A c ys 0 4 w ⟨hr.h.go hw (Split.nil _)⟩ hu (by omega) (by omega) (by omega)) ?_
 by_cases hmg:leY ys 0 4=1296978516
 rotate_left
 ·have hoc:openC ys=3:=by unfold openC;rw[if_neg (by omega),if_pos hmg]
  refine z_tas
  refine z_ro
  exact .inr ⟨by omega,by rw[hoc];rfl,rfl⟩
 rw[hmg]
 refine z_tas
 refine lfv rfl rfl rfl (fun w hw=>chnum_any A c ys 4 2 w ⟨hr.h.go hw (Split.nil _)⟩ hu (by omega) (by omega) (by omega)) ?_
 refine z_tas
 refine lfv rfl rfl rfl (fun w hw=>chnum_any A c ys 6 2 w ⟨hr.h.go hw (Split.nil _)⟩ hu (by omega) (by omega) (by omega)) ?_
 refine z_tas
 refine lfv rfl rfl rfl (fun w hw=>chnum_any A c ys 8 2 w ⟨hr.h.go hw (Split.nil _)⟩ hu (by omega) (by omega) (by omega)) ?_
 refine z_tas
 refine lfv rfl rfl rfl (fun w hw=>chnum_any A c ys 10 4 w ⟨hr.h.go hw (Split.nil _)⟩ hu (by omega) (by omega) (by omega)) ?_
 refine z_tas
 refine lfv rfl rfl rfl (fun w hw=>chnum_any A c ys 14 4 w ⟨hr.h.go hw (Split.nil _)⟩ hu (by omega) (by omega) (by omega)) ?_
 have ew:leY ys 4 2=wY ys:=rfl
 have eh:leY ys 6 2=hY ys:=rfl
 have ec:leY ys 8 2=cellY ys:=rfl
 rw[ew]at hl4
 rw[eh]at hl6
 rw[ec]at hl8
 rw[ew,eh,ec]
 generalize hox:leY ys 10 4=ox at *
 generalize hoy:leY ys 14 4=oy at *
 by_cases hrg:rangeY ys
 rotate_left
 ·have hoc:openC ys=2:=by unfold openC;rw[if_neg (by omega),if_neg (by omega),if_pos hrg]
  unfold rangeY at hrg
  generalize wY ys=W at *
  generalize hY ys=H at *
  generalize cellY ys=cell at *
  refine z_tas
  all_goals first
   | (refine z_ro;exact .inr ⟨by omega,by rw[hoc];rfl,rfl⟩)
   | (exfalso;omega)
 have hrg0:=hrg
 unfold rangeY at hrg
 have hn:nY ys≤256:=nT_le (by omega)
 have hhn:headN (wY ys) (hY ys)=22+6*nY ys:=rfl
 have hatd:∀i,atY ys i=match i with|0=>headN (wY ys) (hY ys)|i+1=>atY ys i+szY ys i:=fun i=>by cases i<;>rfl
 have hocd:openC ys=if ys.length<headN (wY ys) (hY ys)then 5 else if ¬crcOk (ys.take (headN (wY ys) (hY ys)))then 4 else if ¬(∀i,i<nY ys→fromY ys i=atY ys i)then 2 else if atY ys (nY ys)≠ys.length then 5 else 0:=by
  conv=>lhs;unfold openC
  rw[if_neg (by omega),if_neg (by omega),if_neg (fun e=>e hrg0)]
 have e1:IntKind.i32.wrap (ox:Int)=i32N ox:=rfl
 have e2:IntKind.i32.wrap (oy:Int)=i32N oy:=rfl
 generalize hn0:headN (wY ys) (hY ys)=hd at *
 refine z_tas
 rw[e1,e2]
 refine lfv rfl rfl rfl (fun w _=>head_any (wY ys) (hY ys) w (by omega)) ?_
 rw[hn0]
 rcases Nat.lt_or_ge ys.length hd with hlt|hge
 ·have hoc:openC ys=5:=by rw[hocd,if_pos hlt]
  refine z_tas
  refine z_ro
  exact .inr ⟨by omega,by rw[hoc];rfl,rfl⟩
 rw[if_neg (by omega)]at hocd
 have htl:(ys.take hd).length=hd:=by rw[List.length_take];omega
 have htu:U8s (ys.take hd):=fun x hx=>hu x (List.mem_of_mem_take hx)
 refine j_sub 0 hd hr (by omega) fun hr0=>?_
 rw[List.drop_zero,Nat.sub_zero]at hr0
 refine z_tas
 refine lf rfl rfl rfl (S:=[]) (fun w hw ho=>crcget_any _ _ hd (ys.take hd) w htl ⟨hr0.h.go hw (Split.nil _)⟩ htu (by omega)) ?_
 rintro v S' hcg
 rcases hcg with⟨hok,Ag,cg,rfl,rfl⟩ | ⟨hno,rfl,rfl⟩
 rotate_left
 ·have hoc:openC ys=4:=by rw[hocd,if_pos hno]
  refine z_tas
  refine z_ro
  exact .inr ⟨by omega,by rw[hoc];rfl,rfl⟩
 rw[if_neg (fun e=>e hok)]at hocd
 refine z_tas
 rename_i b2 _ b4 _ _ _ _ _ _ _
 refine lf rfl rfl rfl (S:=[]) (fun w hw ho=>places_any (wY ys) (hY ys) w (by omega)) ?_
 rintro v S' ⟨Ap,cp,rfl,rfl⟩
 have hpl:=placesTo_len (wY ys) (nY ys)
 have hnn:nT (wY ys) (hY ys)=nY ys:=rfl
 rw[hnn]
 refine j_nil (e:=3) (size:=1) ?_
 refine j_nil (e:=3) (size:=1) ?_
 refine z_tas
 refine j_set 94 _ rfl (v':=.int .i64 (nY ys:Nat)) (by rw[hpl]) ?_
 refine j_set 10 _ rfl (v':=.int .i64 (atY ys 0:Nat)) (by rw[atY,hn0]) ?_
 refine c_loop (X:=Nat×(Option Addr×Nat)×(Option Addr×Nat)) (fun q=>q.1≤nY ys∧∀j,j<q.1→fromY ys j=atY ys j)
  (fun q=>[(0,.slice A ys.length c),(2,.pointer (some ⟨b2,0,none⟩)),(4,.pointer (some ⟨b4,0,none⟩)),(10,.int .i64 (atY ys q.1:Nat)),(94,.int .i64 (nY ys:Nat)),(95,.int .i64 q.1)])
  (fun q=>[.blk b4 128 [.int .i64 (wY ys:Nat),.int .i64 (hY ys:Nat),.slice none 0 0,.int .i64 (cellY ys:Nat),.int .i32 (i32N ox),.int .i32 (i32N oy),.slice q.2.1.1 (atL ys q.1).length q.2.1.2,.slice q.2.2.1 (szL ys q.1).length q.2.2.2],.row (.slice q.2.1.1 (atL ys q.1).length q.2.1.2) 3 1 (atL ys q.1).length (ints .i64 (atL ys q.1)),.row (.slice q.2.2.1 (szL ys q.1).length q.2.2.2) 3 1 (szL ys q.1).length (ints .i64 (szL ys q.1)),.blk b2 128 [.int .i64 0,.int .i64 0,.slice none 0 0,.int .i64 0,.int .i32 0,.int .i32 0,.slice none 0 0,.slice none 0 0]]) (fun q=>nY ys-q.1) (0,(none,0),(none,0)) ⟨by simp,fun j hj=>by omega⟩ ?_ ?_ ?_
 ·exact⟨rfl,rfl,rfl,rfl,rfl,rfl,trivial⟩
 ·exact(Sub.cons (.there _ (.there _ (.there _ (.there _ (.here _ _))))) (Sub.cons (.here _ _) (Sub.cons (.here _ _) (Sub.cons (.there _ (.there _ (.here _ _))) (Sub.nil _)))))
 rintro⟨i,⟨A1,c1⟩,⟨A2,c2⟩⟩ ⟨hi,hfr⟩
 simp only at hi hfr ⊢
 have hal:=atL_len ys i
 have hsl:=szL_len ys i
 rcases Nat.lt_or_ge i (nY ys) with h|h
 ·have hlf:=leY_lt hu (a:=18+6*i) (n:=4) (by omega)
  have hls:=leY_lt hu (a:=18+6*i+4) (n:=2) (by omega)
  refine z_tas
  refine j_set 101 _ rfl (v':=.int .i64 (18+6*i:Nat)) (by push_cast;rfl) ?_
  refine lfv rfl rfl rfl (fun w hw=>chnum_any A c ys (18+6*i) 4 w ⟨hr.h.go hw (Split.nil _)⟩ hu (by omega) (by omega) (by omega)) ?_
  have ef:leY ys (18+6*i) 4=fromY ys i:=rfl
  rw[ef]at hlf ⊢
  refine z_tas
  refine j_set 107 _ rfl (v':=.int .i64 (18+6*i+4:Nat)) (by push_cast;rfl) ?_
  refine lfv rfl rfl rfl (fun w hw=>chnum_any A c ys (18+6*i+4) 2 w ⟨hr.h.go hw (Split.nil _)⟩ hu (by omega) (by omega) (by omega)) ?_
  have es:leY ys (18+6*i+4) 2=szY ys i:=rfl
  rw[es]at hls ⊢
  by_cases hfe:fromY ys i=atY ys i
  rotate_left
  ·have hoc:openC ys=2:=by rw[hocd,if_pos (fun e=>hfe (e i h))]
   refine z_tas
   refine z_ro
   exact .inr ⟨by omega,by rw[hoc];rfl,rfl⟩
  have hps:=atL_succ ys i
  have hpz:=szL_succ ys i
  have hnx:atY ys (i+1)=atY ys i+szY ys i:=rfl
  rw[hfe]
  rw[hfe]at hlf
  have hbig:atY ys i≤4294967296:=by omega
  refine z_gon
  refine c_drx [.blk b4 128 [.int .i64 (wY ys:Nat),.int .i64 (hY ys:Nat),.slice none 0 0,.int .i64 (cellY ys:Nat),.int .i32 (i32N ox),.int .i32 (i32N oy),.slice A1 (atL ys i).length c1,.slice A2 (szL ys i).length c2]] [true,true,true,false,false,true,true,false,false,false,true,false,false,false] [3,4,7,8,9,11,12,13] Sub.au rfl (by decide) (by decide +kernel) ?_
  refine z_gob
  all_goals first
   | (rename_i A3 c3 A4 c4;exact c_round (i+1,(A3,c3),(A4,c4)) ⟨by show i+1≤_;omega,fun j hj=>by
     rcases Nat.lt_or_ge j i with h1|h1
     ·exact hfr j h1
     ·rw[show j=i by omega];exact hfe⟩ (by show _-(i+1)<_-i;omega) ⟨rfl,rfl,rfl,by simp only[hnx];rfl,rfl,by simp[look],trivial⟩ (by simp only[hps,hpz];exact Sub.au))
   | (rename_i A3 c3 _ A4 c4;exact c_round (i+1,(A3,c3),(A4,c4)) ⟨by show i+1≤_;omega,fun j hj=>by
     rcases Nat.lt_or_ge j i with h1|h1
     ·exact hfr j h1
     ·rw[show j=i by omega];exact hfe⟩ (by show _-(i+1)<_-i;omega) ⟨rfl,rfl,rfl,by simp only[hnx];rfl,rfl,by simp[look],trivial⟩ (by simp only[hps,hpz];exact Sub.au))
 ·obtain rfl:i=nY ys:=by omega
  have hfr2:∀j,j<nY ys→fromY ys j=atY ys j:=hfr
  rw[if_neg (fun e=>e hfr2)]at hocd
  by_cases hend:atY ys (nY ys)=ys.length
  ·rw[if_neg (fun e=>e hend)]at hocd
   refine z_gob
   refine j_outK (.cons (.there _ (.here _ _)) (.cons (.there _ (.here _ _)) (.nil _))) ?_
   refine z_rk
   trace_state
   refine .inl ⟨hocd,_,_,_,_,?_,rfl⟩
   rw[hox,hoy]
   rfl
  ·rw[if_pos hend]at hocd
   refine z_gob
   refine z_ro
   exact .inr ⟨by omega,by rw[hocd];rfl,rfl⟩
def TilOk(ys:List Int)(i:Nat)(zs:List Int):Prop:=zs.length=tilW (wY ys) (hY ys) i*tilH (wY ys) (hY ys) i∧In16 zs∧segT ys i=crcP (rawB (tilW (wY ys) (hY ys) i) zs)
def TilC(ys:List Int)(i:Nat)(code:Int):Prop:=(code=4∧¬crcOk (segT ys i))∨(crcOk (segT ys i)∧((code=3∧¬Rowed (tilW (wY ys) (hY ys) i*tilH (wY ys) (hY ys) i) ((segT ys i).take ((segT ys i).length-4)))∨(code=2∧Rowed (tilW (wY ys) (hY ys) i*tilH (wY ys) (hY ys) i) ((segT ys i).take ((segT ys i).length-4)))))
theorem TilC.ne{ys:List Int}{i:Nat}{code:Int}(h:TilC ys i code):code≠0:=by rcases h with⟨rfl,-⟩ | ⟨-,⟨rfl,-⟩ | ⟨rfl,-⟩⟩<;>decide
theorem TilC.one{ys:List Int}{i:Nat}{a b:Int}(h:TilC ys i a)(g:TilC ys i b):a=b:=by
 rcases h with⟨rfl,h1⟩ | ⟨h1,⟨rfl,h2⟩ | ⟨rfl,h2⟩⟩<;>rcases g with⟨rfl,g1⟩ | ⟨g1,⟨rfl,g2⟩ | ⟨rfl,g2⟩⟩<;>first|rfl|contradiction
def TileR(ys:List Int)(i:Nat)(v:Value)(S':List HE):Prop:=∃(zs:List Int) (A:Option Addr) (c:Nat) (code:Int) (T:List HE),v=.tuple #[.slice A zs.length c,.int .i64 code]∧S'=.row (.slice A zs.length c) 86 1 zs.length (ints .i16 zs)::T∧((code=0∧TilOk ys i zs)∨(TilC ys i code∧zs=[]∧∀z,¬TilOk ys i z))
abbrev dirV(ys:List Int)(A1:Option Addr)(c1:Nat)(A2:Option Addr)(c2:Nat):Value:=.agg #[.int .i64 (wY ys:Nat),.int .i64 (hY ys:Nat),.slice none 0 0,.int .i64 (cellY ys:Nat),.int .i32 (i32N (leY ys 10 4)),.int .i32 (i32N (leY ys 14 4)),.slice A1 (atL ys (nY ys)).length c1,.slice A2 (szL ys (nY ys)).length c2]
theorem crcP_take(ys:List Int):(crcP ys).take ((crcP ys).length-4)=ys:=by
 rw[crcP_len,Nat.add_sub_cancel]
 unfold crcP
 rw[List.take_left]
theorem ctile_any(A:Option Addr)(c:Nat)(ys:List Int)(A1 A2:Option Addr)(c1 c2:Nat)(i:Nat)(w:World)(hr:RoA w (blocks []) A ys.length c 1 (ints .u8 ys))(h1:RoA w (blocks []) A1 (atL ys (nY ys)).length c1 1 (ints .i64 (atL ys (nY ys))))(h2:RoA w (blocks []) A2 (szL ys (nY ys)).length c2 1 (ints .i64 (szL ys (nY ys))))(hu:U8s ys)(hm:ys.length<100000000)(hO:Opens ys)(hi:i<nY ys):
  Does Tryz.prog 50 [.slice A ys.length c,dirV ys A1 c1 A2 c2,.int .i64 i] [] w (TileR ys i):=by
 have hal:=atL_len ys (nY ys)
 have hsl:=szL_len ys (nY ys)
 have hrg:=hO.rng
 have hin:=hO.in_ hi
 have hatg:=atL_get ys _ i hi
 have hszg:=szL_get ys _ i hi
 unfold rangeY at hrg
 have hn:nY ys≤256:=nT_le (by omega)
 have hcl:ys.length≤c:=by obtain⟨_,_,e,q1,-⟩:=hr.h;injection e with _ _ e;omega
 have hpg:=placesTo_get (wY ys) (nT (wY ys) (hY ys)) i hi
 have hpl:=placesTo_len (wY ys) (nT (wY ys) (hY ys))
 have hi2:i<nT (wY ys) (hY ys):=hi
 have hbx:=tile_box (W:=wY ys) (H:=hY ys) hi
 obtain⟨hX,hY'⟩:=tXY_in (W:=wY ys) (H:=hY ys) (i:=i) (by omega) hi
 refine does_of Tryz.func50 rfl Tryz.ntmps50 rfl ⟨by simp,.nil⟩ (fun n=>?_)
 simp only[slots]
 refine z_tas
 refine c_drv _ (0::1::2::3::4::5::6::7::8::9::10::11::12::13::14::15::16::17::18::19::20::21::22::23::24::25::26::27::28::29::[]) (Sub.refl _) (by decide +kernel) (by decide) (by decide +kernel) (by decide +kernel) (by decide +kernel) ?_;intro _
 refine z_gov
 refine lf rfl rfl rfl (S:=[]) (fun w hw ho=>places_any (wY ys) (hY ys) w (by omega)) ?_
 rintro v S' ⟨Ap,cp,rfl,rfl⟩
 refine z_gov
 refine z_gov
 simp only[hpg]
 refine lfv rfl rfl rfl (fun w _=>box_any (wY ys) (hY ys) (tX (wY ys) i) (tY (wY ys) i) w hX hY' (by omega)) ?_
 obtain⟨b1,o1,rfl,hA1⟩:=h1.at_ (by omega:0<(atL ys (nY ys)).length)
 obtain⟨b2,o2,rfl,hA2⟩:=h2.at_ (by omega:0<(szL ys (nY ys)).length)
 refine z_gov
 refine c_drv _ (0::1::2::3::4::5::6::7::8::9::10::11::12::13::14::15::16::17::18::19::20::21::22::23::[]) (Sub.refl _) (by decide +kernel) (by decide) (by decide +kernel) (by decide +kernel) (by decide +kernel) ?_;intro _
 refine z_gov
 refine j_set 55 _ rfl (v':=.int .i64 (atY ys i:Nat)) (by rw[hatg]) ?_
 refine j_set 66 _ rfl (v':=.int .i64 (atY ys i+szY ys i:Nat)) (by rw[hatg,hszg];push_cast;rfl) ?_
 refine j_sub (atY ys i) (atY ys i+szY ys i) hr (by omega) fun hr0=>?_
 rw[Nat.add_sub_cancel_left]at hr0
 refine z_gov
 rw[Nat.add_sub_cancel_left]
 have hgl:=seg_len hin
 have hgu:=seg_u8 hu (atY ys i) (szY ys i)
 refine lf rfl rfl rfl (S:=[]) (fun w hw ho=>crcget_any _ _ (szY ys i) (segT ys i) w hgl ⟨hr0.h.go hw (Split.nil _)⟩ hgu (by omega)) ?_
 rintro v S' hcg
 have hgl2:(segT ys i).length=szY ys i:=hgl
 rcases hcg with⟨hok,Ag,cg,rfl,rfl⟩ | ⟨hno,rfl,rfl⟩
 rotate_left
 ·refine z_gov
  refine j_nil (e:=86) (size:=1) ?_
  exact j_out2 rfl rfl rfl (.cons (.here _ _) (.nil _)) ⟨[],none,0,4,[],rfl,rfl,.inr ⟨.inl ⟨rfl,hno⟩,rfl,fun z hz=>hno (by rw[hz.2.2];exact crcOk_P _)⟩⟩
 have hbu:U8s ((segT ys i).take (szY ys i-4)):=fun x hx=>hgu x (List.mem_of_mem_take hx)
 have hbl:((segT ys i).take (szY ys i-4)).length≤szY ys i:=by rw[List.length_take];omega
 have hsl2:=leY_lt hu (a:=18+6*i+4) (n:=2) (by have:=hO.head;unfold headN at this;omega)
 have hsz2:szY ys i<65536:=hsl2
 have heq:=crcOk_eq hok
 rw[hgl2]at heq
 have hnone:∀z,TilOk ys i z→pack (rowB (deltas z (tilW (wY ys) (hY ys) i)))=(segT ys i).take (szY ys i-4):=by
  intro z hz
  have h3:=crcP_take (rawB (tilW (wY ys) (hY ys) i) z)
  rw[← hz.2.2,hgl2]at h3
  exact h3.symm
 refine z_gov
 refine lf rfl rfl rfl (S:=[]) (fun w hw ho=>get8_any Ag cg ((segT ys i).take (szY ys i-4)) (tilW (wY ys) (hY ys) i) (tilH (wY ys) (hY ys) i) w ⟨Ro.row hw (Split.nil _) (by refine z_hs)⟩ hbu (by omega) (by omega)) ?_
 rintro v S' ⟨zs,Az,cz,code,T,rfl,rfl,hz⟩
 refine j_perm (H':=[.row (.slice Az zs.length cz) 86 1 zs.length (ints .i16 zs)]) (.cons (.here _ _) (.nil _)) ?_
 refine z_gob
 refine j_out2 rfl rfl rfl (Sub.refl _) ⟨zs,Az,cz,code,[],rfl,rfl,?_⟩
 rcases hz with⟨rfl,g1,g2,g3⟩ | ⟨hcode,rfl,hno⟩
 ·exact .inl ⟨rfl,g1,g2,by rw[heq];unfold rawB;rw[g3]⟩
 ·refine .inr ⟨.inr ⟨hok,?_⟩,rfl,fun z hz=>hno z hz.1 hz.2.1 (hnone z hz)⟩
  rw[hgl2]
  exact hcode
end Go.Proofs.YthajpemlpmlefaaGreat
