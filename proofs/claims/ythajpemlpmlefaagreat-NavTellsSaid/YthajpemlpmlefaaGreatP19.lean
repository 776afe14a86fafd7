import Derived.Test.YthajpemlpmlefaaGreatP15
import Derived.Test.YthajpemlpmlefaaGreatP18
set_option maxHeartbeats 512000000
set_option maxRecDepth 4000
set_option linter.unusedVariables false
set_option linter.unusedSimpArgs false
namespace Go.Proofs.YthajpemlpmlefaaGreat
open Go.RowKit
def Good9(ys:List Int)(f:List Int):Prop:=In16 f∧f.length=wY ys*hY ys∧∀j,j<nY ys→segT ys j=tilB (wY ys) (hY ys) f j
theorem Good9.til{ys f:List Int}(h:Good9 ys f){i:Nat}(hi:i<nY ys):TilOk ys i (cutN (wY ys) (hY ys) f i):=⟨cutN_len h.2.1,in16_cut h.1 _ _ _,h.2.2 i hi⟩
theorem TilOk.one{ys a b:List Int}{i:Nat}(hi:i<nY ys)(h:TilOk ys i a)(g:TilOk ys i b):a=b:=by
 have hb:=tile_box (W:=wY ys) (H:=hY ys) hi
 have e:=h.2.2.symm.trans g.2.2
 have e2:=congrArg (fun l=>l.take (l.length-4)) e
 simp only[crcP_take]at e2
 exact back8 (by omega:0<tilW (wY ys) (hY ys) i) (by rw[h.1,g.1]) g.2.1 h.2.1 e2
def GetC(ys:List Int)(code:Int):Prop:=(code≠0∧openC ys=code)∨(openC ys=0∧∃i,i<nY ys∧TilC ys i code∧(∀z,¬TilOk ys i z)∧∀j,j<i→∃z,TilOk ys j z)∨(openC ys=0∧code=0∧∀j,j<nY ys→∃z,TilOk ys j z)
theorem GetC.one{ys:List Int}{a b:Int}(h:GetC ys a)(g:GetC ys b):a=b:=by
 rcases h with⟨h1,h2⟩ | ⟨h1,i,hi,h2,h3,h4⟩ | ⟨h1,h2,h3⟩<;>rcases g with⟨g1,g2⟩ | ⟨g1,k,hk,g2,g3,g4⟩ | ⟨g1,g2,g3⟩
 ·rw[← h2,g2]
 ·omega
 ·omega
 ·omega
 ·have e:i=k:=by
   rcases Nat.lt_trichotomy i k with e|e|e
   ·obtain⟨z,hz⟩:=g4 i e;exact absurd hz (h3 z)
   ·exact e
   ·obtain⟨z,hz⟩:=h4 k e;exact absurd hz (g3 z)
  subst e
  exact h2.one g2
 ·obtain⟨z,hz⟩:=g3 i hi;exact absurd hz (h3 z)
 ·omega
 ·obtain⟨z,hz⟩:=h3 k hk;exact absurd hz (g3 z)
 ·rw[h2,g2]
def GetR9(ys:List Int)(v:Value)(S':List HE):Prop :=
 (∃code,code≠0∧GetC ys code∧v=.tuple #[.agg #[.int .i64 0,.int .i64 0,.slice none 0 0,.int .i64 0,.int .i32 0,.int .i32 0],.int .i64 code]∧S'=[]) ∨
 (GetC ys 0∧∃(g:List Int) (A:Option Addr) (c:Nat),g.length=wY ys*hY ys∧(∀f,Good9 ys f→g=f)∧v=.tuple #[.agg #[.int .i64 (wY ys:Nat),.int .i64 (hY ys:Nat),.slice A g.length c,.int .i64 (cellY ys:Nat),.int .i32 (i32N (leY ys 10 4)),.int .i32 (i32N (leY ys 14 4))],.int .i64 0] ∧
  S'=[.row (.slice A g.length c) 86 1 g.length (ints .i16 g)])
theorem lay_len9(W H m:Nat)(A B:Option Addr)(c d:Nat)(z ys:List Int)(X Y:Int)(w:World)(hzm:z.length=m)(hown:Own [.row (.slice A m c) 86 1 m (ints .i16 z)] w)(hr:RoA w (blocks [.row (.slice A m c) 86 1 m (ints .i16 z)]) B ys.length d 1 (ints .i16 ys))(hX:InR .i64 X)(hY:InR .i64 Y)(hm:2≤W∧W≤256∧2≤H∧H≤256)(hz:z.length=W*H)(hc:z.length≤c)(hyb:ys.length<1000000)(hys:ys.length=(boxF W H X Y).2.2.1*(boxF W H X Y).2.2.2∧0<(boxF W H X Y).2.2.1):
  Does Tryz.prog 51 [.agg #[.int .i64 W,.int .i64 H,.slice A m c],.agg #[.int .i64 X,.int .i64 Y],.slice B ys.length d] [.row (.slice A m c) 86 1 m (ints .i16 z)] w
   (fun v S'=>v=.bool true∧S'=[.row (.slice A m c) 86 1 m (ints .i16 (layTo ys W (boxF W H X Y).1 (boxF W H X Y).2.1 (boxF W H X Y).2.2.1 z (boxF W H X Y).2.2.2))]):=by
 subst hzm
 refine(lay_any W H A B c d z ys X Y w hown hr hX hY hm hz hc hyb).mono ?_
 rintro v S' (⟨h1,-,-,h2⟩ | ⟨-,h2,-⟩)
 ·exact⟨h1,h2⟩
 ·exact absurd hys h2
attribute [local irreducible] OJ J HdJ Code.wpIn wpListIn Oper.wpIn bodyPost CallsIn Does
theorem get_any9(A:Option Addr)(c:Nat)(ys:List Int)(w:World)(hr:RoA w (blocks []) A ys.length c 1 (ints .u8 ys))(hu:U8s ys)(hm:ys.length<100000000):
  Does Tryz.prog 19 [.slice A ys.length c] [] w (GetR9 ys):=by
 refine does_of Tryz.func19 rfl Tryz.ntmps19 rfl ⟨by simp,.nil⟩ (fun n=>?_)
 simp only[slots]
 refine z_tas
 rename_i b2
 refine lf rfl rfl rfl (S:=[]) (fun w hw ho=>open_any A c ys w ⟨hr.h.go hw (Split.nil _)⟩ hu hm) ?_
 rintro v S' hop
 rcases hop with⟨hoc,A1,c1,A2,c2,rfl,rfl⟩ | ⟨hoc,rfl,rfl⟩
 rotate_left
 ·generalize hcode:openC ys=code at *
  refine z_tas
  all_goals first
   | (refine z_ro;exact .inl ⟨code,hoc,.inl ⟨hoc,hcode⟩,rfl,rfl⟩)
   | (exfalso;omega)
 have hO:=(openC_iff ys).1 hoc
 have hrg:=hO.rng
 unfold rangeY at hrg
 have hal:=atL_len ys (nY ys)
 have hsl:=szL_len ys (nY ys)
 have hn:nY ys≤256:=nT_le (by omega)
 have hnp:1≤nY ys:=nT_pos (by omega)
 have hpl:=placesTo_len (wY ys) (nY ys)
 have hWH:wY ys*hY ys≤65536:=by have:=Nat.mul_le_mul (show wY ys≤256 by omega) (show hY ys≤256 by omega);omega
 have hmul:(wY ys:Int)*(hY ys:Int)=((wY ys*hY ys:Nat):Int):=by push_cast;rfl
 have hmi:0≤(wY ys:Int)*(hY ys:Int)∧(wY ys:Int)*(hY ys:Int)≤65536:=by rw[hmul];omega
 refine z_tas
 rename_i b4 b6
 refine j_set 28 _ rfl (v':=.int .i64 (wY ys*hY ys:Nat)) (by rw[hmul]) ?_
 refine z_tas
 rename_i bg
 refine lf rfl rfl rfl (S:=[]) (fun w hw ho=>places_any (wY ys) (hY ys) w (by omega)) ?_
 rintro v S' ⟨Ap,cp,rfl,rfl⟩
 have hnn:nT (wY ys) (hY ys)=nY ys:=rfl
 rw[hnn]
 refine z_tas
 refine j_set 39 _ rfl (v':=.int .i64 (nY ys:Nat)) (by rw[hpl]) ?_
 refine c_loop (X:=Nat×List Int) (fun q=>q.1≤nY ys∧q.2.length=wY ys*hY ys∧(∀j,j<q.1→∃z,TilOk ys j z)∧∀f,Good9 ys f→LaidR (wY ys) (hY ys) f q.2 q.1)
  (fun q=>[(0,.slice A ys.length c),(2,.pointer (some ⟨b2,0,none⟩)),(4,.pointer (some ⟨b4,0,none⟩)),(5,.int .i64 0),(6,.pointer (some ⟨b6,0,none⟩)),(38,.slice Ap (placesTo (wY ys) (nY ys)).length cp),(39,.int .i64 (nY ys:Nat)),(40,.int .i64 q.1)])
  (fun q=>[.row (.slice (some ⟨bg,0,none⟩) (wY ys*hY ys) (wY ys*hY ys)) 86 1 (wY ys*hY ys) (ints .i16 q.2),.blk b6 43 [.int .i64 (wY ys:Nat),.int .i64 (hY ys:Nat),.slice (some ⟨bg,0,none⟩) (wY ys*hY ys) (wY ys*hY ys),.int .i64 (cellY ys:Nat),.int .i32 (i32N (leY ys 10 4)),.int .i32 (i32N (leY ys 14 4))],.row (.slice Ap (placesTo (wY ys) (nY ys)).length cp) 134 2 (placesTo (wY ys) (nY ys)).length (flat spotE (placesTo (wY ys) (nY ys))),.blk b4 128 [.int .i64 (wY ys:Nat),.int .i64 (hY ys:Nat),.slice none 0 0,.int .i64 (cellY ys:Nat),.int .i32 (i32N (leY ys 10 4)),.int .i32 (i32N (leY ys 14 4)),.slice A1 (atL ys (nY ys)).length c1,.slice A2 (szL ys (nY ys)).length c2],.row (.slice A1 (atL ys (nY ys)).length c1) 3 1 (atL ys (nY ys)).length (ints .i64 (atL ys (nY ys))),.row (.slice A2 (szL ys (nY ys)).length c2) 3 1 (szL ys (nY ys)).length (ints .i64 (szL ys (nY ys))),.blk b2 43 [.int .i64 0,.int .i64 0,.slice none 0 0,.int .i64 0,.int .i32 0,.int .i32 0]]) (fun q=>nY ys-q.1) (0,List.replicate (wY ys*hY ys) 0) ⟨by simp,by simp,fun j hj=>by omega,fun f hf=>LaidR.zero (by simp)⟩ ⟨rfl,rfl,rfl,rfl,rfl,rfl,rfl,rfl,trivial⟩ Sub.au ?_
 rintro⟨i,g⟩ ⟨hi,hgl,hj,hg⟩
 dsimp only at hi hgl hj hg ⊢
 rcases Nat.lt_or_ge i (nY ys) with h|h
 ·have hpg:=placesTo_get (wY ys) _ i h
  obtain⟨hX,hY'⟩:=tXY_in (W:=wY ys) (H:=hY ys) (i:=i) (by omega) h
  have hbx:=tile_box (W:=wY ys) (H:=hY ys) h
  refine z_tas
  simp only[hpg]
  refine lf rfl rfl rfl (S:=[]) (fun w hw ho=>ctile_any A c ys A1 A2 c1 c2 i w ⟨hr.h.go hw (Split.nil _)⟩ ⟨Ro.row hw (Split.nil _) (by refine z_hs)⟩ ⟨Ro.row hw (Split.nil _) (by refine z_hs)⟩ hu hm hO h) ?_
  rintro v S' ⟨zs,Az,cz,code,T,rfl,rfl,hz⟩
  refine j_perm (H':=.row (.slice Az zs.length cz) 86 1 zs.length (ints .i16 zs)::_) (.cons (.here _ _) (Sub.appR T _)) ?_
  rcases hz with⟨rfl,hok⟩ | ⟨hcode,rfl,hno⟩
  rotate_left
  ·have hne:=hcode.ne
   refine z_tas
   all_goals first
    | (exfalso;omega)
    | (refine z_ro;exact .inl ⟨code,hne,.inr (.inl ⟨hoc,i,h,hcode,hno,hj⟩),rfl,rfl⟩)
  ·have hzl:zs.length≤256:=by have:=Nat.mul_le_mul hbx.2.1 hbx.2.2.2;rw[hok.1];exact this
   refine z_tas
   refine lfn (S:=[.row (.slice (some ⟨bg,0,none⟩) (wY ys*hY ys) (wY ys*hY ys)) 86 1 (wY ys*hY ys) (ints .i16 g)]) rfl rfl (by first|exact(Split.cons (.there _ (.here _ _)) (Split.nil _))|exact(Split.cons (.there _ (.there _ (.here _ _))) (Split.nil _))|exact(Split.cons (.there _ (.there _ (.there _ (.here _ _)))) (Split.nil _))) rfl (fun w hw ho=>lay_len9 (wY ys) (hY ys) (wY ys*hY ys) (some ⟨bg,0,none⟩) Az (wY ys*hY ys) cz g zs (tX (wY ys) i) (tY (wY ys) i) w hgl ho ⟨Ro.row hw (by first|exact(Split.cons (.there _ (.here _ _)) (Split.nil _))|exact(Split.cons (.there _ (.there _ (.here _ _))) (Split.nil _))|exact(Split.cons (.there _ (.there _ (.there _ (.here _ _)))) (Split.nil _))) (by refine z_hs)⟩ hX hY' (by omega) hgl (by omega) (by omega) ⟨hok.1,by show 0<tilW _ _ _;omega⟩) ?_
   rintro v S' ⟨rfl,rfl⟩
   refine z_tas
   refine c_round (i+1,layTo zs (wY ys) (boxF (wY ys) (hY ys) (tX (wY ys) i) (tY (wY ys) i)).1 (boxF (wY ys) (hY ys) (tX (wY ys) i) (tY (wY ys) i)).2.1 (boxF (wY ys) (hY ys) (tX (wY ys) i) (tY (wY ys) i)).2.2.1 g (boxF (wY ys) (hY ys) (tX (wY ys) i) (tY (wY ys) i)).2.2.2) ⟨by show i+1≤_;omega,?_,fun j hjj=>?_,fun f hf=>?_⟩ (by show _-(i+1)<_-i;omega) ⟨rfl,rfl,rfl,rfl,rfl,rfl,rfl,by simp[look],trivial⟩ Sub.au
   ·have hbi:=boxF_in (wY ys) (hY ys) (tX (wY ys) i) (tY (wY ys) i)
    exact layTo_len hgl hbi.1 hbi.2.1 hok.1 _ (Nat.le_refl _)
   ·rcases Nat.lt_or_ge j i with h1|h1
    ·exact hj j h1
    ·rw[show j=i by have:j<i+1:=hjj;omega];exact⟨zs,hok⟩
   ·have e:=TilOk.one h hok (hf.til h)
    subst e
    exact(hg f hf).next hf.2.1 h
 ·obtain rfl:i=nY ys:=by omega
  refine z_tas
  refine j_outK (.cons (.here _ _) (.nil _)) ?_
  refine z_rk
  refine .inr ⟨.inr (.inr ⟨hoc,rfl,hj⟩),g,some ⟨bg,0,none⟩,wY ys*hY ys,hgl,fun f hf=>(hg f hf).all hf.2.1,by rw[hgl];rfl,by rw[hgl]⟩
end Go.Proofs.YthajpemlpmlefaaGreat
namespace Go.Proofs.YthajpemlpmlefaaGreat
open Go.RowKit
instance (priority:=3000) {P:Program}{w0:World}{W:Nat→Prop}{H:List HE}(x y:Operand)(t e b q m c sz bs r r':Nat)(z:Value)(k:IntKind)[hu:Und P t (.slice e)][hI:Inf P e sz bs z][hm:NMul 0 sz r][hr:NAdd q r r']:LV P w0 W H (.indexAddr t x y) [.slice (some ⟨b,q,none⟩) m c,.int k 0] (.pointer (some ⟨b,r',none⟩)) (0<m):=⟨fun h =>
 LV.h (P:=P) (w0:=w0) (W:=W) (H:=H) (op:=.indexAddr t x y) (vs:=[.slice (some ⟨b,q,none⟩) m c,.int k ((0:Nat):Int)]) (v:=.pointer (some ⟨b,r',none⟩)) h⟩
attribute [local irreducible] OJ J HdJ Code.wpIn wpListIn Oper.wpIn bodyPost CallsIn Does
theorem made_any(a b:Int)(ha:InR .u8 a)(hb:InR .u8 b)(W H:Nat)(hW:2+a%39=W)(hH:2+b%39=H)(A:Option Addr)(c:Nat)(z:List Int)(cell:Int)(hc:InR .u16 cell)(ox oy:Int)(w:World)(hr:RoA w (blocks []) A z.length c 1 (ints .i16 z))(hm:z.length<1000000):
  Does Tryz.prog 20 [.int .u8 a,.int .u8 b,.slice A z.length c,.int .u16 cell,.int .i32 ox,.int .i32 oy] [] w (fun v S'=>∃A' c',v=.agg #[.int .i64 W,.int .i64 H,.slice A' (fieldF z (W*H)).length c',.int .i64 (1+cell%1000),.int .i32 ox,.int .i32 oy]∧S'=[.row (.slice A' (fieldF z (W*H)).length c') 86 1 (fieldF z (W*H)).length (ints .i16 (fieldF z (W*H)))]):=by
 have hc1:0≤cell∧cell≤65535:=hc
 refine does_of Tryz.func20 rfl Tryz.ntmps20 rfl ⟨by simp,.nil⟩ (fun n=>?_)
 simp only[slots]
 refine z_tas
 refine lf rfl rfl rfl (S:=[]) (fun w hw ho=>field_any a b ha hb W H hW hH A c z w ⟨hr.h.go hw (Split.nil _)⟩ hm) ?_
 rintro v S' ⟨Af,cf,rfl,rfl⟩
 refine z_tas
 refine j_outK (.cons (.here _ _) (.nil _)) ?_
 refine z_rk
 exact⟨_,_,rfl,rfl⟩
theorem wr16_in(x:Int): -32768≤IntKind.i16.wrap x∧IntKind.i16.wrap x≤32767:=by
 have h:IntKind.i16.wrap x=if 32768≤x%65536 then x%65536-65536 else x%65536:=by simp[IntKind.wrap,IntKind.bits,IntKind.signed]
 rw[h]
 split<;>omega
theorem field_in16{z:List Int}(hz:∀v∈z,InR .i16 v)(m:Nat):In16 (fieldF z m):=in16_of fun v hv=>by
 unfold fieldF at hv
 obtain⟨i,-,rfl⟩:=List.mem_map.1 hv
 unfold fieldV
 split
 ·rename_i h
  rw[List.getD_eq_getElem?_getD,List.getElem?_eq_getElem h]
  exact hz _ (List.getElem_mem ..)
 split
 ·exact wr16_in _
 ·show -32768≤((i%7:Nat):Int)∧((i%7:Nat):Int)≤32767
  omega
theorem chart_good{W H cell:Nat}{ox oy:Int}{z:List Int}(hW:2≤W∧W≤256∧2≤H∧H≤256∧1≤cell∧cell≤1000)(hz:z.length=W*H)(hi:In16 z):Good9 (chartB W H cell ox oy z) z:=by
 obtain⟨-,h2,h3,-⟩:=chart_hdr (W:=W) (H:=H) (cell:=cell) (ox:=ox) (oy:=oy) (z:=z) (by omega)
 refine⟨hi,by rw[h2,h3,hz],fun j hj=>?_⟩
 rw[h2,h3]
 exact chart_seg (by omega) hz (by unfold nY at hj;rw[h2,h3]at hj;exact hj)
theorem chart_get{W H cell:Nat}{ox oy:Int}{z:List Int}(hW:2≤W∧W≤256∧2≤H∧H≤256∧1≤cell∧cell≤1000)(hz:z.length=W*H)(hi:In16 z):GetC (chartB W H cell ox oy z) 0 :=
 .inr (.inr ⟨(openC_iff _).2 (chart_opens hW hz),rfl,fun j hj=>⟨_,(chart_good hW hz hi).til hj⟩⟩)
theorem chart_big{W H cell:Nat}{ox oy:Int}{z:List Int}(hW:W≤256∧H≤256)(hz:z.length=W*H):headN W H≤(chartB W H cell ox oy z).length∧(chartB W H cell ox oy z).length<1000000:=by
 have h1:=nT_le hW
 have h2:=bodyTo_len hz (nT W H)
 rw[chartB_len]
 have:headN W H=22+6*nT W H:=rfl
 omega
end Go.Proofs.YthajpemlpmlefaaGreat
namespace Go.Proofs.YthajpemlpmlefaaGreat
open Go.RowKit
section
variable {N:Nat} {ds:List Deferred} {w0:World} {W:Nat→Prop} {σ:List (Nat×Value)} {H R:List HE} {q:Act→World→Prop}
end
def heightF(W H:Nat)(z:List Int)(x y:Int):Int×Int :=
 if x<0∨y<0∨(W:Int)≤x∨(H:Int)≤y then (0,9)else if z.getD (y*W+x).toNat 0 = -32768 then (0,8)else (z.getD (y*W+x).toNat 0,0)
structure Slt where
 t:Int
 w:Int
 z:List Int
 u:Int
instance:Inhabited Slt:=⟨⟨0,0,[],0⟩⟩
def sltE(s:Slt):List Value:=.int .i64 s.t::.int .i64 s.w::(ints .i16 s.z++[.int .i64 s.u])
def slotsE(l:List Slt):List Value:=l.flatMap sltE
def Slts(l:List Slt):Prop:=∀s∈l,s.z.length=256
def cacheE(pre:List Value)(l:List Slt)(room clock met miss:Int):List Value:=pre++(slotsE l++[.int .i64 room,.int .i64 clock,.int .i64 met,.int .i64 miss])
theorem sltE_len{s:Slt}(h:s.z.length=256):(sltE s).length=259:=by simp[sltE,ints,h]
theorem slotsE_len:∀{l:List Slt},Slts l→(slotsE l).length=259*l.length
 | [],_=>rfl
 | s::r,h=>by
  have h1:=sltE_len (h s (List.mem_cons_self ..))
  have h2:=slotsE_len (l:=r) (fun x hx=>h x (List.mem_cons_of_mem _ hx))
  unfold slotsE at h2 ⊢
  rw[List.flatMap_cons,List.length_append,h1,h2,List.length_cons]
  omega
theorem slotsE_get:∀{l:List Slt} (_:Slts l) (i j:Nat),i<l.length→j<259→(slotsE l)[i*259+j]? = (sltE (l.getD i default))[j]?
 | [],_,i,j,hi,_=>by simp at hi
 | s::r,h,0,j,_,hj=>by
  have h1:=sltE_len (h s (List.mem_cons_self ..))
  unfold slotsE
  rw[List.flatMap_cons,Nat.zero_mul,Nat.zero_add,List.getElem?_append_left (by omega)]
  rfl
 | s::r,h,i+1,j,hi,hj=>by
  have h1:=sltE_len (h s (List.mem_cons_self ..))
  have ih:=slotsE_get (l:=r) (fun x hx=>h x (List.mem_cons_of_mem _ hx)) i j (by simpa using hi) hj
  unfold slotsE at ih ⊢
  rw[List.flatMap_cons,List.getElem?_append_right (by omega),h1,show (i+1)*259+j-259=i*259+j by omega,ih]
  rfl
section
variable {pre:List Value} {l:List Slt} {room clock met miss:Int}
theorem cacheE_slot(hp:pre.length=9)(hl:Slts l){i j:Nat}(hi:i<l.length)(hj:j<259):(cacheE pre l room clock met miss)[9+i*259+j]? = (sltE (l.getD i default))[j]?:=by
 have hs:=slotsE_len hl
 unfold cacheE
 rw[List.getElem?_append_right (by omega),hp,show 9+i*259+j-9=i*259+j by omega,List.getElem?_append_left (by omega)]
 exact slotsE_get hl i j hi hj
theorem cacheE_tile(hp:pre.length=9)(hl:Slts l){i:Nat}(hi:i<l.length):(cacheE pre l room clock met miss)[9+i*259]? = some (.int .i64 (l.getD i default).t):=cacheE_slot hp hl hi (j:=0) (by omega)
theorem cacheE_w(hp:pre.length=9)(hl:Slts l){i:Nat}(hi:i<l.length):(cacheE pre l room clock met miss)[9+i*259+1]? = some (.int .i64 (l.getD i default).w):=cacheE_slot hp hl hi (j:=1) (by omega)
theorem cacheE_used(hp:pre.length=9)(hl:Slts l){i:Nat}(hi:i<l.length):(cacheE pre l room clock met miss)[9+i*259+258]? = some (.int .i64 (l.getD i default).u):=by
 rw[cacheE_slot hp hl hi (by omega)]
 have hm:(l.getD i default).z.length=256:=hl _ (by rw[List.getD_eq_getElem?_getD,List.getElem?_eq_getElem hi];exact List.getElem_mem ..)
 generalize l.getD i default=s at *
 unfold sltE
 rw[List.getElem?_cons_succ,List.getElem?_cons_succ,List.getElem?_append_right (by rw[ints_len,hm];exact Nat.le_refl _),ints_len,hm]
 rfl
theorem cacheE_z(hp:pre.length=9)(hl:Slts l){i j:Nat}(hi:i<l.length)(hj:j<256):(cacheE pre l room clock met miss)[9+i*259+(2+j)]? = some (.int .i16 ((l.getD i default).z.getD j 0)):=by
 rw[cacheE_slot hp hl hi (by omega)]
 have hm:(l.getD i default).z.length=256:=hl _ (by rw[List.getD_eq_getElem?_getD,List.getElem?_eq_getElem hi];exact List.getElem_mem ..)
 generalize l.getD i default=s at *
 unfold sltE
 rw[show 2+j=j+1+1 by omega,List.getElem?_cons_succ,List.getElem?_cons_succ,List.getElem?_append_left (by rw[ints_len,hm];exact hj)]
 simp only[ints,List.getElem?_map,List.getD_eq_getElem?_getD,List.getElem?_eq_getElem (show j<s.z.length by omega)]
 rfl
theorem cacheE_tail(hp:pre.length=9)(hl:Slts l)(h32:l.length=32)(k:Nat):(cacheE pre l room clock met miss)[8297+k]? = [Value.int .i64 room,.int .i64 clock,.int .i64 met,.int .i64 miss][k]?:=by
 have hs:=slotsE_len hl
 unfold cacheE
 rw[List.getElem?_append_right (by omega),List.getElem?_append_right (by omega)]
 congr 1
 omega
end
class SzI(P:Program)(e:TypeId)(sz:outParam Nat):Prop where h:∃i,P.info? e=some i∧i.size=sz
instance:SzI Tryz.prog 179 259:=⟨Tryz.t179,by kernel_rfl,by kernel_rfl⟩
instance (priority:=100) {P:Program}{w0:World}{W:Nat→Prop}{H:List HE}(x y:Operand)(t e m b q sz j r r':Nat)(k:IntKind)[hu:Und P t (.array m e)][hI:SzI P e sz][hm:NMul j sz r][hr:NAdd q r r']:LV P w0 W H (.indexAddr t x y) [.pointer (some ⟨b,q,none⟩),.int k (j:Int)] (.pointer (some ⟨b,r',none⟩)) (j<m):=⟨by
 rintro hi ρ ⟨dst,op',ty,pos,aft,gd⟩ rfl h w _
 obtain⟨hx,hy⟩:=map2 h
 have h1:=hu.h
 obtain⟨ii,h2,h3⟩:=hI.h
 rw[← hr.h,← hm.h]
 simp[execOp,hx,hy,Instr.indexAt,run_underlying h1,asIntOf,sizeOf,typeInfo,h2,h3,hi,add_none,Instr.sureAddr]⟩
instance (priority:=100) {P:Program}{w0:World}{W:Nat→Prop}{H:List HE}(x y:Operand)(t e m b q sz j r r':Nat)(k:IntKind)[hu:Und P t (.array m e)][hI:SzI P e sz][hm:NMul j sz r][hr:NAdd q r r']:MS P w0 W H (.indexAddr t x y) [.pointer (some ⟨b,q,none⟩),.int k (j:Int)] (.pointer (some ⟨b,r',none⟩)) (j<m) :=
 ⟨fun hc _ _ _ _ _ _ _ _ _ _ _ _ _ h1 h2 h3=>o_val (by simp) rfl h2 (fun a w ha _=>by
  obtain⟨p1,p2⟩:=vals2 h1
  have g1:=hu.h
  obtain⟨ii,g2,g3⟩:=hI.h
  rw[← hr.h,← hm.h]
  simp[execOp,ha.eval p1,ha.eval p2,Instr.indexAt,run_underlying g1,asIntOf,sizeOf,typeInfo,g2,g3,hc,add_none,Instr.sureAddr]) h3⟩
def oldTo(l:List Slt):Nat→Nat
 | 0=>0
 | i+1=>if (l.getD i default).u<(l.getD (oldTo l i) default).u then i else oldTo l i
theorem oldTo_lt(l:List Slt):∀i,0<i→oldTo l i<i
 | 0,h=>by omega
 | i+1,_=>by
  unfold oldTo
  split
  ·omega
  ·rcases Nat.eq_zero_or_pos i with e|e
   ·subst e;simp[oldTo]
   ·have:=oldTo_lt l i e;omega
attribute [local irreducible] OJ J HdJ Code.wpIn wpListIn Oper.wpIn bodyPost CallsIn Does
theorem oldest_any(g:Nat)(pre:List Value)(l:List Slt)(room:Nat)(clock met miss:Int)(w:World)(hown:Own [.blk g 182 (cacheE pre l room clock met miss)] w)(hp:pre.length=9)(hl:Slts l)(h32:l.length=32)(hr:1≤room∧room≤32):
  Does Tryz.prog 217 [.pointer (some ⟨g,0,none⟩)] [.blk g 182 (cacheE pre l room clock met miss)] w (fun v S'=>∃k,k<room∧v=.pointer (some ⟨g,9+k*259,none⟩)∧(((l.getD k default).t<0∧∀j,j<k→0≤(l.getD j default).t)∨((∀j,j<room→0≤(l.getD j default).t)∧k=oldTo l room))∧S'=[.blk g 182 (cacheE pre l room clock met miss)]):=by
 have i0:Get (cacheE pre l room clock met miss) 8297 (.int .i64 room):=⟨cacheE_tail hp hl h32 0⟩
 have ft:=fun i (hi:i<32)=>cacheE_tile (pre:=pre) (l:=l) (room:=room) (clock:=clock) (met:=met) (miss:=miss) hp hl (i:=i) (by omega)
 have fu:=fun i (hi:i<32)=>cacheE_used (pre:=pre) (l:=l) (room:=room) (clock:=clock) (met:=met) (miss:=miss) hp hl (i:=i) (by omega)
 refine does_of Tryz.func217 rfl Tryz.ntmps217 rfl hown (fun n=>?_)
 simp only[slots]
 generalize cacheE pre l room clock met miss=cs at *
 refine z_tas
 refine c_loop (X:=Nat) (fun i=>i≤room∧∀j,j<i→0≤(l.getD j default).t) (fun i=>[(0,.pointer (some ⟨g,0,none⟩)),(3,.int .i64 (oldTo l i:Nat)),(8,.int .i64 room),(9,.int .i64 i)]) (fun _=>[.blk g 182 cs]) (fun i=>room-i) 0 ⟨by omega,fun j hj=>by omega⟩ ⟨rfl,rfl,rfl,rfl,trivial⟩ (Sub.refl _) ?_
 rintro i ⟨hi,hj⟩
 rcases Nat.lt_or_ge i room with h|h
 ·have i1:Get cs (9+i*259) (.int .i64 (l.getD i default).t):=⟨ft i (by omega)⟩
  have i2:Get cs (9+i*259+258) (.int .i64 (l.getD i default).u):=⟨fu i (by omega)⟩
  have ho:oldTo l i<32:=by
   rcases Nat.eq_zero_or_pos i with e|e
   ·subst e;simp[oldTo]
   ·have:=oldTo_lt l i e;omega
  have i3:Get cs (9+oldTo l i*259+258) (.int .i64 (l.getD (oldTo l i) default).u):=⟨fu _ ho⟩
  have e:=oldTo.eq_2 l i
  refine z_tas
  ·exact j_out1 rfl rfl (Sub.refl _) ⟨i,h,rfl,.inl ⟨by assumption,hj⟩,rfl⟩
  ·refine c_round (i+1) ⟨by omega,fun j hjj=>?_⟩ (by show room-(i+1)<room-i;omega) ⟨rfl,by rw[e,if_pos (by assumption)];rfl,rfl,by simp[look],trivial⟩ (Sub.refl _)
   rcases Nat.lt_or_ge j i with h1|h1
   ·exact hj j h1
   ·rw[show j=i by omega];omega
  ·refine c_round (i+1) ⟨by omega,fun j hjj=>?_⟩ (by show room-(i+1)<room-i;omega) ⟨rfl,by rw[e,if_neg (by assumption)];rfl,rfl,by simp[look],trivial⟩ (Sub.refl _)
   rcases Nat.lt_or_ge j i with h1|h1
   ·exact hj j h1
   ·rw[show j=i by omega];omega
 ·obtain rfl:i=room:=by omega
  have ho:=oldTo_lt l i (by omega)
  refine z_tas
  exact j_out1 rfl rfl (Sub.refl _) ⟨oldTo l i,ho,rfl,.inr ⟨hj,rfl⟩,rfl⟩
theorem over_set{cs:List Value}{q:Nat}(v:Value)(h:q<cs.length):Over cs q [v] (cs.set q v):=⟨by
 refine⟨?_,by show q+1≤cs.length;exact h⟩
 rw[List.set_eq_take_append_cons_drop,if_pos h]
 simp⟩
theorem slotsE_set:∀{l:List Slt} (_:Slts l) (i j:Nat) (v:Value) (s':Slt),i<l.length→j<259→sltE s'=(sltE (l.getD i default)).set j v→slotsE (l.set i s')=(slotsE l).set (i*259+j) v
 | [],_,i,j,v,s',hi,_,_=>by simp at hi
 | s::r,h,0,j,v,s',_,hj,e=>by
  have h1:=sltE_len (h s (List.mem_cons_self ..))
  have e':sltE s'=(sltE s).set j v:=e
  unfold slotsE
  rw[List.set_cons_zero,List.flatMap_cons,List.flatMap_cons,Nat.zero_mul,Nat.zero_add,List.set_append_left _ _ (by omega),e']
 | s::r,h,i+1,j,v,s',hi,hj,e=>by
  have h1:=sltE_len (h s (List.mem_cons_self ..))
  have ih:=slotsE_set (l:=r) (fun x hx=>h x (List.mem_cons_of_mem _ hx)) i j v s' (by simpa using hi) hj e
  unfold slotsE at ih ⊢
  rw[List.set_cons_succ,List.flatMap_cons,List.flatMap_cons,ih,List.set_append_right _ _ (by omega),h1,show (i+1)*259+j-259=i*259+j by omega]
section
variable {pre:List Value} {l:List Slt} {room clock met miss:Int}
theorem cacheE_len(hp:pre.length=9)(hl:Slts l)(h32:l.length=32):(cacheE pre l room clock met miss).length=8301:=by
 have:=slotsE_len hl
 unfold cacheE
 simp only[List.length_append,List.length_cons,List.length_nil]
 omega
theorem cacheE_set(hp:pre.length=9)(hl:Slts l){i j:Nat}{v:Value}{s':Slt}(hi:i<l.length)(hj:j<259)(e:sltE s'=(sltE (l.getD i default)).set j v):(cacheE pre l room clock met miss).set (9+i*259+j) v=cacheE pre (l.set i s') room clock met miss:=by
 have hs:=slotsE_len hl
 unfold cacheE
 rw[List.set_append_right _ _ (by omega),hp,show 9+i*259+j-9=i*259+j by omega,List.set_append_left _ _ (by omega),slotsE_set hl i j v s' hi hj e]
theorem cacheE_setT(hp:pre.length=9)(hl:Slts l){i:Nat}(hi:i<l.length)(t:Int):(cacheE pre l room clock met miss).set (9+i*259) (.int .i64 t)=cacheE pre (l.set i { l.getD i default with t:=t }) room clock met miss:=cacheE_set hp hl (j:=0) hi (by omega) rfl
theorem cacheE_setW(hp:pre.length=9)(hl:Slts l){i:Nat}(hi:i<l.length)(t:Int):(cacheE pre l room clock met miss).set (9+i*259+1) (.int .i64 t)=cacheE pre (l.set i { l.getD i default with w:=t }) room clock met miss:=cacheE_set hp hl (j:=1) hi (by omega) rfl
theorem cacheE_setU(hp:pre.length=9)(hl:Slts l){i:Nat}(hi:i<l.length)(t:Int):(cacheE pre l room clock met miss).set (9+i*259+258) (.int .i64 t)=cacheE pre (l.set i { l.getD i default with u:=t }) room clock met miss:=by
 have hm:(l.getD i default).z.length=256:=hl _ (by rw[List.getD_eq_getElem?_getD,List.getElem?_eq_getElem hi];exact List.getElem_mem ..)
 refine cacheE_set hp hl (j:=258) hi (by omega) ?_
 generalize l.getD i default=s at *
 unfold sltE
 rw[List.set_cons_succ,List.set_cons_succ,List.set_append_right _ _ (by rw[ints_len,hm];exact Nat.le_refl _),ints_len,hm]
 rfl
theorem Slts.set{l:List Slt}(hl:Slts l)(i:Nat){s:Slt}(h:s.z.length=256):Slts (l.set i s):=fun x hx=>by
 rcases List.mem_or_eq_of_mem_set hx with h1|h1
 ·exact hl x h1
 ·rw[h1];exact h
theorem cacheE_setClock(hp:pre.length=9)(hl:Slts l)(h32:l.length=32)(x:Int):(cacheE pre l room clock met miss).set 8298 (.int .i64 x)=cacheE pre l room x met miss:=by
 have hs:=slotsE_len hl
 unfold cacheE
 rw[List.set_append_right _ _ (by omega),List.set_append_right _ _ (by omega),hp,hs,h32]
 rfl
theorem cacheE_setMet(hp:pre.length=9)(hl:Slts l)(h32:l.length=32)(x:Int):(cacheE pre l room clock met miss).set 8299 (.int .i64 x)=cacheE pre l room clock x miss:=by
 have hs:=slotsE_len hl
 unfold cacheE
 rw[List.set_append_right _ _ (by omega),List.set_append_right _ _ (by omega),hp,hs,h32]
 rfl
theorem cacheE_setMiss(hp:pre.length=9)(hl:Slts l)(h32:l.length=32)(x:Int):(cacheE pre l room clock met miss).set 8300 (.int .i64 x)=cacheE pre l room clock met x:=by
 have hs:=slotsE_len hl
 unfold cacheE
 rw[List.set_append_right _ _ (by omega),List.set_append_right _ _ (by omega),hp,hs,h32]
 rfl
end
end Go.Proofs.YthajpemlpmlefaaGreat
namespace Go.Proofs.YthajpemlpmlefaaGreat
open Go.RowKit
section
variable {P:Program} {w0:World} {W:Nat→Prop} {H:List HE}
instance (t e m b q sz:Nat)(x:Operand)[hu:Und P t (.array m e)][hI:SzI P e sz]:MS P w0 W H (.slice t x none none none) [.pointer (some ⟨b,q,none⟩)] (.slice (some ⟨b,q,none⟩) m m) True :=
 ⟨fun _ _ _ _ _ _ _ _ _ _ _ _ _ _ h1 h2 h3=>o_val (by simp) rfl h2 (fun a w ha _=>by
  have p1:=opnds1 rfl h1
  have g1:=hu.h
  obtain⟨ii,g2,g3⟩:=hI.h
  simp[execOp,ha.eval p1,Instr.sliceAt,Instr.sliceBounds,run_underlying g1,sizeOf,typeInfo,g2,Instr.sureAddr]
  intro _
  simp[Addr.add]) h3⟩
end
theorem r_copyB{F:Fence}{P:Program}{n N:Nat}{ds:List Deferred}{w0:World}{W:Nat→Prop}{H:List HE}{σ:List (Nat×Value)}{d:Nat}{ty:TypeId}{pos:String}{aft:Array Edge}{gd:Option (Nat×Bool)}{K:Act→World→Prop}{Q:Exit→Act→World→Prop}[hF:Wide F]{t e bs g o dl dc j tb:Nat}{z u:Value}{k:IntKind}{cs:List Value}{ys:List Int}{x y:Operand}{kk:HE→List HE}[Und P t (.slice e)][hI:Inf P e 1 bs z]
  [hb:At g H tb cs kk] [hs:SrcC w0 W H e 1 u j (ints k ys)] (hv:vals σ [x,y]=some [.slice (some ⟨g,o,none⟩) dl dc,u]) (hc:0<j∧j≤dl∧o+j≤cs.length) (hdN:Nat.blt d N=true)
  (h:J N ds w0 W ((d,.int .i64 j)::σ) (kk (.blk g tb (cs.take o++ints k ys++cs.drop (o+j)))) K):OJ F n P N ds w0 W σ H ⟨some d,.call ⟨.builtin .copy,#[x,y],#[t,t]⟩,ty,pos,aft,gd⟩ K Q:=by
 obtain⟨R,h2,h3⟩:=hb.h
 intro a w ha hw
 obtain⟨p,q⟩:=vals2 hv
 obtain⟨A',c',rfl,-,-,e2,e3⟩:=hs.h w hw
 have hyl:ys.length=j:=by simpa using e2
 have hg:w.heap[g]? = some (.cells cs.toArray tb (0,0)):=hw.has h2
 have hinf:(P.info? e).map (·.size)=some 1:=Inf.size (z:=z) (bs:=bs)
 have hut:=Und.h (P:=P) (t:=t)
 obtain⟨b',off',rfl,hcell⟩:=e3 hc.1
 have hrun:=run_copy_row P w t t ty e g o dl dc ⟨b',off',none⟩ j c' cs.toArray tb (ints k ys) hut hinf hg (by rw[ints_len,hyl];exact(Nat.min_eq_left hc.2.1).symm) (fun q v hq=>by rw[add_none];exact hcell q v hq w hw) (by rw[ints_len,hyl];simpa using hc.2.2) (by
  intro v hv
  obtain⟨x,-,rfl⟩:=List.mem_map.1 hv
  rfl)
 rw[ints_len,hyl]at hrun
 refine⟨fun f _=>hF.out.fn f,?_⟩
 rw[Oper.semAt_plain F _ _ (by simp)]
 simp only[execOp,resolve,invoke,builtin,Sem.run_bind,Sem.run_pure,Result.andThen_ok,List.map_toArray,List.map_cons,List.map_nil,ha.eval p,ha.eval q,hrun,Oper.uponIn_value]
 refine h _ _ (ha.put d _ (by simpa using hdN)) ?_
 have hst:St w0 W (.blk g tb (cs.take o++ints k ys++cs.drop (o+j))::R) (w.setRow g (cs.take o++ints k ys++cs.drop (o+j)).toArray):=by
  refine hw.turn h2 ?_ rfl rfl rfl (by simp) (fun b _ hk=>Go.setRow_other _ _ _ _ (fun e=>hk (by rw[e];rfl))) (.inl rfl)
  exact Go.setRow_heap w g _ _ tb _ hg
 exact hst.sub (h3 _)
theorem lcpB{F:Fence}{P:Program}{n N:Nat}{ds:List Deferred}{w0:World}{W:Nat→Prop}{H:List HE}{σ:List (Nat×Value)}{ops:Array Oper}{rest:List Oper}{d:Nat}{ty:TypeId}{pos:String}{aft:Array Edge}{gd:Option (Nat×Bool)}{Q:Exit→Act→World→Prop}[Wide F]{t e bs g o dl dc j tb:Nat}{z u:Value}{k:IntKind}{cs:List Value}{ys:List Int}{x y:Operand}{kk:HE→List HE}[Und P t (.slice e)][Inf P e 1 bs z]
  (hw:wantd ops σ ⟨some d,.call ⟨.builtin .copy,#[x,y],#[t,t]⟩,ty,pos,aft,gd⟩=some true) (hv:vals σ [x,y]=some [.slice (some ⟨g,o,none⟩) dl dc,u]) [hb:At g H tb cs kk] [hs:SrcC w0 W H e 1 u j (ints k ys)] (hc:0<j∧j≤dl∧o+j≤cs.length) (hdN:Nat.blt d N=true)
  (h:J N ds w0 W ((d,.int .i64 j)::σ) (kk (.blk g tb (cs.take o++ints k ys++cs.drop (o+j)))) (wpListIn F n P ops Q rest)) :
  J N ds w0 W σ H (wpListIn F n P ops Q (⟨some d,.call ⟨.builtin .copy,#[x,y],#[t,t]⟩,ty,pos,aft,gd⟩::rest)):=l_run hw (r_copyB (z:=z) (bs:=bs) hv hc hdN h)
instance:SzI Tryz.prog 86 1:=⟨Tryz.t86,by kernel_rfl,by kernel_rfl⟩
theorem slotsE_over:∀{l:List Slt} (_:Slts l) (i j:Nat) (vs:List Value) (s':Slt),i<l.length→j+vs.length≤259→(sltE (l.getD i default)).take j++vs++(sltE (l.getD i default)).drop (j+vs.length)=sltE s'→(slotsE l).take (i*259+j)++vs++(slotsE l).drop (i*259+j+vs.length)=slotsE (l.set i s')
 | [],_,i,j,vs,s',hi,_,_=>by simp at hi
 | s::r,h,0,j,vs,s',_,hj,e=>by
  have h1:=sltE_len (h s (List.mem_cons_self ..))
  have e':(sltE s).take j++vs++(sltE s).drop (j+vs.length)=sltE s':=e
  unfold slotsE
  rw[List.set_cons_zero,List.flatMap_cons,List.flatMap_cons,Nat.zero_mul,Nat.zero_add,List.take_append_of_le_length (by omega),List.drop_append_of_le_length (by omega),← e',List.append_assoc,List.append_assoc,List.append_assoc]
 | s::r,h,i+1,j,vs,s',hi,hj,e=>by
  have h1:=sltE_len (h s (List.mem_cons_self ..))
  have ih:=slotsE_over (l:=r) (fun x hx=>h x (List.mem_cons_of_mem _ hx)) i j vs s' (by simpa using hi) hj e
  unfold slotsE at ih ⊢
  rw[List.set_cons_succ,List.flatMap_cons,List.flatMap_cons,← ih,List.take_append,List.drop_append,List.take_of_length_le (by omega),List.drop_eq_nil_of_le (by omega),List.nil_append,h1,show (i+1)*259+j-259=i*259+j by omega,show (i+1)*259+j+vs.length-259=i*259+j+vs.length by omega,List.append_assoc,List.append_assoc,List.append_assoc]
section
variable {pre:List Value} {l:List Slt} {room clock met miss:Int}
theorem cacheE_setZ(hp:pre.length=9)(hl:Slts l){i:Nat}(hi:i<l.length){zs:List Int}(hz:zs.length≤256):(cacheE pre l room clock met miss).take (9+i*259+2)++ints .i16 zs++(cacheE pre l room clock met miss).drop (9+i*259+2+zs.length)=cacheE pre (l.set i { l.getD i default with z:=zs++(l.getD i default).z.drop zs.length }) room clock met miss:=by
 have hs:=slotsE_len hl
 have hm:(l.getD i default).z.length=256:=hl _ (by rw[List.getD_eq_getElem?_getD,List.getElem?_eq_getElem hi];exact List.getElem_mem ..)
 have e:=slotsE_over hl i 2 (ints .i16 zs) { l.getD i default with z:=zs++(l.getD i default).z.drop zs.length } hi (by rw[ints_len];omega) (by
  generalize l.getD i default=s at *
  rw[ints_len]
  unfold sltE
  rw[show 2+zs.length=zs.length+1+1 by omega,List.take_succ_cons,List.take_succ_cons,List.take_zero,List.drop_succ_cons,List.drop_succ_cons,List.drop_append_of_le_length (by rw[ints_len];omega),ints_drop]
  simp[ints])
 rw[ints_len]at e
 unfold cacheE
 rw[← e,List.take_append,List.take_of_length_le (by omega),hp,show 9+i*259+2-9=i*259+2 by omega,List.take_append_of_le_length (by omega),List.drop_append,List.drop_eq_nil_of_le (by omega),List.nil_append,hp,show 9+i*259+2+zs.length-9=i*259+2+zs.length by omega,List.drop_append_of_le_length (by omega)]
 simp only[List.append_assoc]
end
abbrev preC(ys:List Int)(A:Option Addr)(c:Nat)(A1:Option Addr)(c1:Nat)(A2:Option Addr)(c2:Nat):List Value:=[.slice A ys.length c,.int .i64 (wY ys:Nat),.int .i64 (hY ys:Nat),.slice none 0 0,.int .i64 (cellY ys:Nat),.int .i32 (i32N (leY ys 10 4)),.int .i32 (i32N (leY ys 14 4)),.slice A1 (atL ys (nY ys)).length c1,.slice A2 (szL ys (nY ys)).length c2]
def OldestK(l:List Slt)(room k:Nat):Prop:=((l.getD k default).t<0∧∀j,j<k→0≤(l.getD j default).t)∨((∀j,j<room→0≤(l.getD j default).t)∧k=oldTo l room)
def GetsC(ys:List Int)(l:List Slt)(room:Nat)(clock met miss:Int)(n k:Nat)(l':List Slt)(met' miss':Int):Prop :=
 ((l.getD k default).t=n∧(∀j,j<k→(l.getD j default).t≠n)∧l'=l.set k { l.getD k default with u:=clock+1 }∧met'=met+1∧miss'=miss) ∨
 ((∀j,j<room→(l.getD j default).t≠n)∧OldestK l room k∧(∃zs,TilOk ys n zs∧l'=l.set k ⟨n,(tilW (wY ys) (hY ys) n:Nat),zs++(l.getD k default).z.drop zs.length,clock+1⟩)∧met'=met∧miss'=miss+1)
theorem getD_set_self{l:List Slt}{i:Nat}{s:Slt}(h:i<l.length):(l.set i s).getD i default=s:=by simp[List.getD_eq_getElem?_getD,h]
instance {pre:List Value}{l:List Slt}{room clock met miss:Int}{q:Nat}{v:Value}[h:Get pre q v]:Get (cacheE pre l room clock met miss) q v:=⟨by
 have hq:q<pre.length:=by
  rcases Nat.lt_or_ge q pre.length with h1|h1
  ·exact h1
  ·exact absurd h.h (by rw[List.getElem?_eq_none h1];simp)
 unfold cacheE
 rw[List.getElem?_append_left hq];exact h.h⟩
attribute [local irreducible] OJ J HdJ Code.wpIn wpListIn Oper.wpIn bodyPost CallsIn Does
theorem getc_any(g:Nat)(ys:List Int)(A A1 A2:Option Addr)(c c1 c2:Nat)(l:List Slt)(room tn:Nat)(clock met miss:Int)(w:World)(hown:Own [.blk g 182 (cacheE (preC ys A c A1 c1 A2 c2) l room clock met miss),.row (.slice A ys.length c) 5 1 ys.length (ints .u8 ys),.row (.slice A1 (atL ys (nY ys)).length c1) 3 1 (atL ys (nY ys)).length (ints .i64 (atL ys (nY ys))),.row (.slice A2 (szL ys (nY ys)).length c2) 3 1 (szL ys (nY ys)).length (ints .i64 (szL ys (nY ys)))] w)
  (hl:Slts l) (h32:l.length=32) (hr:1≤room∧room≤32) (hcl:(0≤clock∧clock≤1000000000000000000)∧(0≤met∧met≤1000000000000000000)∧(0≤miss∧miss≤1000000000000000000)) (hu:U8s ys) (hm:ys.length<100000000) (hO:Opens ys) (hn:tn<nY ys) (hg:∀i,i<nY ys→∃z,TilOk ys i z) :
  Does Tryz.prog 164 [.pointer (some ⟨g,0,none⟩),.int .i64 tn] [.blk g 182 (cacheE (preC ys A c A1 c1 A2 c2) l room clock met miss),.row (.slice A ys.length c) 5 1 ys.length (ints .u8 ys),.row (.slice A1 (atL ys (nY ys)).length c1) 3 1 (atL ys (nY ys)).length (ints .i64 (atL ys (nY ys))),.row (.slice A2 (szL ys (nY ys)).length c2) 3 1 (szL ys (nY ys)).length (ints .i64 (szL ys (nY ys)))] w
   (fun v S'=>∃k l' met' miss',k<room∧v=.pointer (some ⟨g,9+k*259,none⟩)∧GetsC ys l room clock met miss tn k l' met' miss'∧S'=[.blk g 182 (cacheE (preC ys A c A1 c1 A2 c2) l' room (clock+1) met' miss'),.row (.slice A ys.length c) 5 1 ys.length (ints .u8 ys),.row (.slice A1 (atL ys (nY ys)).length c1) 3 1 (atL ys (nY ys)).length (ints .i64 (atL ys (nY ys))),.row (.slice A2 (szL ys (nY ys)).length c2) 3 1 (szL ys (nY ys)).length (ints .i64 (szL ys (nY ys)))]):=by
 have hp:(preC ys A c A1 c1 A2 c2).length=9:=rfl
 have i0:Get (cacheE (preC ys A c A1 c1 A2 c2) l room clock met miss) 8298 (.int .i64 clock):=⟨cacheE_tail hp hl h32 1⟩
 have i1:=fun cl=>(⟨cacheE_tail hp hl h32 0⟩:Get (cacheE (preC ys A c A1 c1 A2 c2) l room cl met miss) 8297 (.int .i64 room))
 have i2:=fun cl=>(⟨cacheE_tail hp hl h32 2⟩:Get (cacheE (preC ys A c A1 c1 A2 c2) l room cl met miss) 8299 (.int .i64 met))
 have i3:=fun cl=>(⟨cacheE_tail hp hl h32 3⟩:Get (cacheE (preC ys A c A1 c1 A2 c2) l room cl met miss) 8300 (.int .i64 miss))
 have o0:SetAt (cacheE (preC ys A c A1 c1 A2 c2) l room clock met miss) 8298 (.int .i64 (clock+1)) (cacheE (preC ys A c A1 c1 A2 c2) l room (clock+1) met miss):=⟨cacheE_setClock hp hl h32 _,by rw[cacheE_len hp hl h32];decide⟩
 have j1:=i1 (clock+1)
 have ft:=fun i (hi:i<32)=>cacheE_tile (pre:=preC ys A c A1 c1 A2 c2) (l:=l) (room:=room) (clock:=clock+1) (met:=met) (miss:=miss) hp hl (i:=i) (by omega)
 refine does_of Tryz.func164 rfl Tryz.ntmps164 rfl hown (fun n=>?_)
 simp only[slots]
 refine z_tas
 refine c_loop (X:=Nat) (fun i=>i≤room∧∀j,j<i→(l.getD j default).t≠tn) (fun i=>[(0,.pointer (some ⟨g,0,none⟩)),(1,.int .i64 tn),(20,.int .i64 room),(21,.int .i64 i)])
  (fun _=>[.blk g 182 (cacheE (preC ys A c A1 c1 A2 c2) l room (clock+1) met miss),.row (.slice A ys.length c) 5 1 ys.length (ints .u8 ys),.row (.slice A1 (atL ys (nY ys)).length c1) 3 1 (atL ys (nY ys)).length (ints .i64 (atL ys (nY ys))),.row (.slice A2 (szL ys (nY ys)).length c2) 3 1 (szL ys (nY ys)).length (ints .i64 (szL ys (nY ys)))]) (fun i=>room-i) 0 ⟨by omega,fun j hj=>by omega⟩ ⟨rfl,rfl,rfl,rfl,trivial⟩ (Sub.refl _) ?_
 rintro i ⟨hi,hj⟩
 rcases Nat.lt_or_ge i room with h|h
 ·have g1:Get (cacheE (preC ys A c A1 c1 A2 c2) l room (clock+1) met miss) (9+i*259) (.int .i64 (l.getD i default).t):=⟨ft i (by omega)⟩
  have j2:=i2 (clock+1)
  have o1:SetAt (cacheE (preC ys A c A1 c1 A2 c2) l room (clock+1) met miss) 8299 (.int .i64 (met+1)) (cacheE (preC ys A c A1 c1 A2 c2) l room (clock+1) (met+1) miss):=⟨cacheE_setMet hp hl h32 _,by rw[cacheE_len hp hl h32];decide⟩
  have j3:Get (cacheE (preC ys A c A1 c1 A2 c2) l room (clock+1) (met+1) miss) 8298 (.int .i64 (clock+1)):=⟨cacheE_tail hp hl h32 1⟩
  have o2:SetAt (cacheE (preC ys A c A1 c1 A2 c2) l room (clock+1) (met+1) miss) (9+i*259+258) (.int .i64 (clock+1)) (cacheE (preC ys A c A1 c1 A2 c2) (l.set i { l.getD i default with u:=clock+1 }) room (clock+1) (met+1) miss):=⟨cacheE_setU hp hl (by omega) _,by rw[cacheE_len hp hl h32];omega⟩
  refine z_tas
  ·exact j_out1 rfl rfl (Sub.refl _) ⟨i,_,_,_,h,rfl,.inl ⟨by assumption,hj,rfl,rfl,rfl⟩,rfl⟩
  ·refine c_round (i+1) ⟨by omega,fun j hjj=>?_⟩ (by show room-(i+1)<room-i;omega) ⟨rfl,rfl,rfl,by simp[look],trivial⟩ (Sub.refl _)
   rcases Nat.lt_or_ge j i with h1|h1
   ·exact hj j h1
   ·rw[show j=i by omega];assumption
 ·obtain rfl:i=room:=by omega
  have j2:=i3 (clock+1)
  have o1:SetAt (cacheE (preC ys A c A1 c1 A2 c2) l i (clock+1) met miss) 8300 (.int .i64 (miss+1)) (cacheE (preC ys A c A1 c1 A2 c2) l i (clock+1) met (miss+1)):=⟨cacheE_setMiss hp hl h32 _,by rw[cacheE_len hp hl h32];decide⟩
  refine z_tas
  refine lf rfl rfl rfl (fun w hw ho=>oldest_any g (preC ys A c A1 c1 A2 c2) l i (clock+1) met (miss+1) w ho hp hl h32 hr) ?_
  rintro v S' ⟨k,hk,rfl,hold,rfl⟩
  have p0:Get (cacheE (preC ys A c A1 c1 A2 c2) l i (clock+1) met (miss+1)) 0 (.slice A ys.length c):=⟨rfl⟩
  have p1:Cut (cacheE (preC ys A c A1 c1 A2 c2) l i (clock+1) met (miss+1)) 1 8 [.int .i64 (wY ys:Nat),.int .i64 (hY ys:Nat),.slice none 0 0,.int .i64 (cellY ys:Nat),.int .i32 (i32N (leY ys 10 4)),.int .i32 (i32N (leY ys 14 4)),.slice A1 (atL ys (nY ys)).length c1,.slice A2 (szL ys (nY ys)).length c2]:=⟨rfl,rfl⟩
  refine z_tas
  refine c_drv _ (0::1::2::3::4::5::6::7::8::9::10::11::12::13::14::[]) (Sub.refl _) (by decide +kernel) (by decide) (by decide +kernel) (by decide +kernel) (by decide +kernel) ?_;intro _
  refine z_govG
  refine lf rfl rfl rfl (S:=[]) (fun w hw ho=>ctile_any A c ys A1 A2 c1 c2 tn w ⟨Ro.row hw (Split.nil _) (by refine z_hs)⟩ ⟨Ro.row hw (Split.nil _) (by refine z_hs)⟩ ⟨Ro.row hw (Split.nil _) (by refine z_hs)⟩ hu hm hO hn) ?_
  rintro v S' ⟨zs,Az,cz,code,T,rfl,rfl,hz⟩
  refine j_perm (H':=.row (.slice Az zs.length cz) 86 1 zs.length (ints .i16 zs)::_) (.cons (.here _ _) (Sub.appR T _)) ?_
  obtain⟨rfl,hok⟩:code=0∧TilOk ys tn zs:=by
   rcases hz with hz | ⟨-,-,hz⟩
   ·exact hz
   ·obtain⟨z,hz2⟩:=hg tn hn;exact absurd hz2 (hz z)
  have p2:Get (cacheE (preC ys A c A1 c1 A2 c2) l i (clock+1) met (miss+1)) 8298 (.int .i64 (clock+1)):=⟨cacheE_tail hp hl h32 1⟩
  obtain⟨sk,hsk⟩:∃s,l.getD k default=s:=⟨_,rfl⟩
  have hmk:sk.z.length=256:=by rw[← hsk];exact hl _ (by rw[List.getD_eq_getElem?_getD,List.getElem?_eq_getElem (by omega)];exact List.getElem_mem ..)
  have hlk:∀t w u:Int,Slts (l.set k ⟨t,w,sk.z,u⟩):=fun t w u=>hl.set k hmk
  have h3k:∀s:Slt,(l.set k s).length=32:=fun s=>by rw[List.length_set];exact h32
  have hgk:=fun (s:Slt)=>getD_set_self (l:=l) (i:=k) (s:=s) (by omega)
  have o3:SetAt (cacheE (preC ys A c A1 c1 A2 c2) l i (clock+1) met (miss+1)) (9+k*259) (.int .i64 tn) (cacheE (preC ys A c A1 c1 A2 c2) (l.set k ⟨tn,sk.w,sk.z,sk.u⟩) i (clock+1) met (miss+1)):=⟨by rw[cacheE_setT hp hl (by omega),hsk],by rw[cacheE_len hp hl h32];omega⟩
  have o4:SetAt (cacheE (preC ys A c A1 c1 A2 c2) (l.set k ⟨tn,sk.w,sk.z,sk.u⟩) i (clock+1) met (miss+1)) (9+k*259+258) (.int .i64 (clock+1)) (cacheE (preC ys A c A1 c1 A2 c2) (l.set k ⟨tn,sk.w,sk.z,clock+1⟩) i (clock+1) met (miss+1)):=⟨by rw[cacheE_setU hp (hlk _ _ _) (by rw[h3k];omega),hgk,List.set_set],by rw[cacheE_len hp (hlk _ _ _) (h3k _)];omega⟩
  have o5:SetAt (cacheE (preC ys A c A1 c1 A2 c2) (l.set k ⟨tn,sk.w,sk.z,clock+1⟩) i (clock+1) met (miss+1)) (9+k*259+1) (.int .i64 ((boxF (wY ys) (hY ys) (tX (wY ys) tn) (tY (wY ys) tn)).2.2.1:Nat)) (cacheE (preC ys A c A1 c1 A2 c2) (l.set k ⟨tn,(tilW (wY ys) (hY ys) tn:Nat),sk.z,clock+1⟩) i (clock+1) met (miss+1)):=⟨by rw[cacheE_setW hp (hlk _ _ _) (by rw[h3k];omega),hgk,List.set_set];rfl,by rw[cacheE_len hp (hlk _ _ _) (h3k _)];omega⟩
  refine z_govG
  refine z_tas
  have hrg:=hO.rng
  unfold rangeY at hrg
  have hpg:=placesTo_get (wY ys) (nT (wY ys) (hY ys)) tn hn
  have hpl:=placesTo_len (wY ys) (nT (wY ys) (hY ys))
  have hn2:tn<nT (wY ys) (hY ys):=hn
  have hbx:=tile_box (W:=wY ys) (H:=hY ys) hn
  obtain⟨hX,hY'⟩:=tXY_in (W:=wY ys) (H:=hY ys) (i:=tn) (by omega) hn
  refine c_dp [38] 39 (0::1::2::3::4::5::6::7::8::9::10::11::12::13::14::15::16::17::18::19::20::21::22::23::24::25::26::27::28::29::30::31::32::33::34::35::36::37::38::[]) ?_;intro _
  refine z_govG
  refine lf rfl rfl rfl (S:=[]) (fun w hw ho=>places_any (wY ys) (hY ys) w (by omega)) ?_
  rintro v S' ⟨Ap,cp,rfl,rfl⟩
  refine z_govG
  simp only[hpg]
  refine lfv rfl rfl rfl (fun w _=>box_any (wY ys) (hY ys) (tX (wY ys) tn) (tY (wY ys) tn) w hX hY' (by omega)) ?_
  refine z_govG
  refine z_tas
  have hzl:0<zs.length∧zs.length≤256:=by
   rw[hok.1]
   exact⟨Nat.mul_pos (by omega) (by omega),Nat.mul_le_mul (show _≤16 by omega) (show _≤16 by omega)⟩
  refine lcpB rfl rfl ⟨hzl.1,hzl.2,?_⟩ rfl ?_
  ·rw[cacheE_len hp (hlk _ _ _) (h3k _)];omega
  rw[cacheE_setZ hp (hlk _ _ _) (by rw[h3k];omega) hzl.2,hgk,List.set_set]
  refine z_tas
  subst hsk
  refine j_out1 rfl rfl ?_ ⟨k,_,_,_,hk,rfl,.inr ⟨hj,hold,⟨zs,hok,rfl⟩,rfl,rfl⟩,rfl⟩
  exact Sub.au
theorem cut_cell{W H:Nat}{f:List Int}(hf:f.length=W*H){x y:Nat}(hx:x<W)(hy:y<H):y/16*cntF W+x/16<nT W H∧(y%16+1)*tilW W H (y/16*cntF W+x/16)≤(cutN W H f (y/16*cntF W+x/16)).length∧x%16<tilW W H (y/16*cntF W+x/16)∧(cutN W H f (y/16*cntF W+x/16)).getD (y%16*tilW W H (y/16*cntF W+x/16)+x%16) 0=f.getD (y*W+x) 0:=by
 have hi:x/16<cntF W:=by unfold cntF;omega
 have hk:y/16<cntF H:=by unfold cntF;omega
 have hn:y/16*cntF W+x/16<nT W H:=by
  have h5:(y/16+1)*cntF W≤cntF H*cntF W:=Nat.mul_le_mul_right _ hk
  rw[Nat.add_mul,Nat.one_mul,Nat.mul_comm (cntF H)]at h5
  unfold nT
  omega
 have hX:=(tXY (W:=W) (y:=y/16) hi).1
 have hY:=(tXY (W:=W) (y:=y/16) hi).2
 have hb:=box_at (W:=W) (H:=H) hi hk
 have ew:tilW W H (y/16*cntF W+x/16)=min 16 (W-16*(x/16)):=by unfold tilW;rw[hX,hY,hb]
 have eh:tilH W H (y/16*cntF W+x/16)=min 16 (H-16*(y/16)):=by unfold tilH;rw[hX,hY,hb]
 have hl:=cutN_len (W:=W) (H:=H) (i:=y/16*cntF W+x/16) hf
 have hr:y%16<tilH W H (y/16*cntF W+x/16):=by rw[eh];omega
 refine⟨hn,?_,by rw[ew];omega,?_⟩
 ·rw[hl,Nat.mul_comm (tilW ..)]
  exact Nat.mul_le_mul_right _ hr
 have hbx:=boxF_in W H (x/16:Nat) (y/16:Nat)
 rw[hb]at hbx
 simp only at hbx
 have hp:=cut_part (r:=y%16) hf hbx.1 hbx.2.1 (by omega) _ (by omega:y%16<min 16 (H-16*(y/16))) (Nat.le_refl _)
 have ec:cutN W H f (y/16*cntF W+x/16)=cutTo f W (16*(x/16)) (16*(y/16)) (min 16 (W-16*(x/16))) (min 16 (H-16*(y/16))):=by
  unfold cutN cutF
  rw[hX,hY,hb]
 rw[ec,ew]
 have hxm:x%16<min 16 (W-16*(x/16)):=by omega
 have e1:=congrArg (fun l=>l.getD (x%16) 0) hp
 simp only[List.getD_eq_getElem?_getD,List.getElem?_take_of_lt hxm,List.getElem?_drop]at e1
 rw[List.getD_eq_getElem?_getD,e1,rowAt,List.getElem?_take_of_lt hxm,List.getElem?_drop,show 16*(y/16)+y%16=y by omega,show y*W+16*(x/16)+x%16=y*W+x by omega,List.getD_eq_getElem?_getD]
theorem getD_takeZ{l:List Int}{m i:Nat}(h:i<m):(l.take m).getD i 0=l.getD i 0:=by rw[List.getD_eq_getElem?_getD,List.getD_eq_getElem?_getD,List.getElem?_take_of_lt h]
structure CaT where
 g:Nat
 ys:List Int
 A:Option Addr
 c:Nat
 A1:Option Addr
 c1:Nat
 A2:Option Addr
 c2:Nat
 room:Nat
structure CaV where
 l:List Slt
 clock:Int
 met:Int
 miss:Int
@[reducible] def CaT.H(K:CaT)(s:CaV):List HE:=[.blk K.g 182 (cacheE (preC K.ys K.A K.c K.A1 K.c1 K.A2 K.c2) s.l K.room s.clock s.met s.miss),.row (.slice K.A K.ys.length K.c) 5 1 K.ys.length (ints .u8 K.ys),.row (.slice K.A1 (atL K.ys (nY K.ys)).length K.c1) 3 1 (atL K.ys (nY K.ys)).length (ints .i64 (atL K.ys (nY K.ys))),.row (.slice K.A2 (szL K.ys (nY K.ys)).length K.c2) 3 1 (szL K.ys (nY K.ys)).length (ints .i64 (szL K.ys (nY K.ys)))]
@[reducible] def CaT.HC(K:CaT)(s:CaV)(T:List HE):List HE:=.blk K.g 182 (cacheE (preC K.ys K.A K.c K.A1 K.c1 K.A2 K.c2) s.l K.room s.clock s.met s.miss)::.row (.slice K.A K.ys.length K.c) 5 1 K.ys.length (ints .u8 K.ys)::.row (.slice K.A1 (atL K.ys (nY K.ys)).length K.c1) 3 1 (atL K.ys (nY K.ys)).length (ints .i64 (atL K.ys (nY K.ys)))::.row (.slice K.A2 (szL K.ys (nY K.ys)).length K.c2) 3 1 (szL K.ys (nY K.ys)).length (ints .i64 (szL K.ys (nY K.ys)))::T
def SlIs(ys f:List Int)(n:Nat)(s:Slt):Prop:=s.t=n∧s.w=(tilW (wY ys) (hY ys) n:Nat)∧s.z.take (cutN (wY ys) (hY ys) f n).length=cutN (wY ys) (hY ys) f n
def SlOk(ys f:List Int)(s:Slt):Prop:=0≤s.t→∃n,n<nY ys∧SlIs ys f n s
structure CaF(ys f:List Int)(room:Nat):Prop where
 u8:U8s ys
 len:ys.length<100000000
 op:Opens ys
 good:Good9 ys f
 room:1≤room∧room≤32
structure CaOk(ys f:List Int)(room:Nat)(s:CaV)(b:Int):Prop where
 len:s.l.length=32
 slts:Slts s.l
 sl:∀k,k<room→SlOk ys f (s.l.getD k default)
 clock:0≤s.clock∧s.clock≤b
 met:0≤s.met∧s.met≤b
 miss:0≤s.miss∧s.miss≤b
theorem CaOk.mono{ys f:List Int}{room:Nat}{s:CaV}{b c:Int}(h:CaOk ys f room s b)(hb:b≤c):CaOk ys f room s c:=⟨h.len,h.slts,h.sl,⟨h.clock.1,by have:=h.clock.2;omega⟩,⟨h.met.1,by have:=h.met.2;omega⟩,⟨h.miss.1,by have:=h.miss.2;omega⟩⟩
theorem gets_ok{ys f:List Int}{room n k:Nat}{s s':CaV}{b:Int}(hF:CaF ys f room)(h:CaOk ys f room s b)(hn:n<nY ys)(hk:k<room)(hg:GetsC ys s.l room s.clock s.met s.miss n k s'.l s'.met s'.miss)(hc:s'.clock=s.clock+1):CaOk ys f room s' (b+1)∧SlIs ys f n (s'.l.getD k default):=by
 have hk32:k<s.l.length:=by have:=h.len;have:=hF.room;omega
 obtain⟨c1,c2⟩:=h.clock
 obtain⟨c3,c4⟩:=h.met
 obtain⟨c5,c6⟩:=h.miss
 have key:∀sl:Slt,sl.z.length=256→SlOk ys f sl→s'.l=s.l.set k sl→(s'.met=s.met+1∧s'.miss=s.miss∨s'.met=s.met∧s'.miss=s.miss+1)→CaOk ys f room s' (b+1)∧s'.l.getD k default=sl:=by
  intro sl hz hsl e hm
  refine⟨⟨by rw[e,List.length_set,h.len],by rw[e];exact h.slts.set k hz,fun j hj=>?_,by omega,by omega,by omega⟩,by rw[e,getD_set_self hk32]⟩
  rw[e]
  by_cases hjk:j=k
  ·subst hjk;rw[getD_set_self hk32];exact hsl
  ·have:(s.l.set k sl).getD j default=s.l.getD j default:=by rw[List.getD_eq_getElem?_getD,List.getD_eq_getElem?_getD,List.getElem?_set_ne (fun e=>hjk e.symm)]
   rw[this];exact h.sl j hj
 have hz0:(s.l.getD k default).z.length=256:=h.slts _ (by rw[List.getD_eq_getElem?_getD,List.getElem?_eq_getElem hk32];exact List.getElem_mem ..)
 rcases hg with⟨h1,-,h3,h4,h5⟩ | ⟨-,-,⟨zs,h1,h2⟩,h4,h5⟩
 ·obtain⟨m,hm,hsl⟩:=h.sl k hk (by omega)
  have hmn:m=n:=by have:=hsl.1;omega
  subst hmn
  have:=key { s.l.getD k default with u:=s.clock+1 } hz0 (fun _=>⟨m,hm,hsl⟩) h3 (.inl ⟨h4,h5⟩)
  exact⟨this.1,by rw[this.2];exact hsl⟩
 ·obtain rfl:=TilOk.one hn h1 (hF.good.til hn)
  have hl:(cutN (wY ys) (hY ys) f n).length≤256:=cutN_le hF.good.2.1
  have his:SlIs ys f n ⟨n,(tilW (wY ys) (hY ys) n:Nat),cutN (wY ys) (hY ys) f n++(s.l.getD k default).z.drop (cutN (wY ys) (hY ys) f n).length,s.clock+1⟩:=⟨rfl,rfl,by simp⟩
  have:=key _ (by simp only[List.length_append,List.length_drop];omega) (fun _=>⟨n,hn,his⟩) h2 (.inr ⟨h4,h5⟩)
  exact⟨this.1,by rw[this.2];exact his⟩
def HgtS(ys:List Int)(room:Nat)(s:CaV)(x y:Int)(s':CaV):Prop :=
 ((x<0∨y<0∨(wY ys:Int)≤x∨(hY ys:Int)≤y)∧s'=s)∨(¬(x<0∨y<0∨(wY ys:Int)≤x∨(hY ys:Int)≤y)∧∃k,k<room∧GetsC ys s.l room s.clock s.met s.miss (y.toNat/16*cntF (wY ys)+x.toNat/16) k s'.l s'.met s'.miss∧s'.clock=s.clock+1)
theorem HgtS.ok{ys f:List Int}{room:Nat}{s s':CaV}{x y b:Int}(hg:HgtS ys room s x y s')(hF:CaF ys f room)(h:CaOk ys f room s b):CaOk ys f room s' (b+1):=by
 rcases hg with⟨-,rfl⟩ | ⟨ho,k,hk,h1,h2⟩
 ·exact h.mono (by omega)
 ·exact(gets_ok hF h (cut_cell (f:=f) hF.good.2.1 (by omega) (by omega)).1 hk h1 h2).1
theorem height_c(K:CaT)(s:CaV)(f:List Int)(x y b:Int)(w:World)(hown:Own (K.H s) w)(hF:CaF K.ys f K.room)(h:CaOk K.ys f K.room s b)(hb:b≤1000000000000000000):
  Does Tryz.prog 108 [.pointer (some ⟨K.g,0,none⟩),.int .i64 x,.int .i64 y] (K.H s) w (fun v S'=>∃s',v=.tuple #[.int .i16 (heightF (wY K.ys) (hY K.ys) f x y).1,.int .i64 (heightF (wY K.ys) (hY K.ys) f x y).2]∧HgtS K.ys K.room s x y s'∧S'=K.H s'):=by
 obtain⟨g,ys,A,c,A1,c1,A2,c2,room⟩:=K
 obtain⟨l,clock,met,miss⟩:=s
 have hrg:=hF.op.rng
 unfold rangeY at hrg
 have hrm:=hF.room
 have hp:(preC ys A c A1 c1 A2 c2).length=9:=rfl
 obtain⟨e1,-,-,e3,e4,e5⟩:=id h
 simp only at e1 e3 e4 e5 hrm hrg ⊢ hF h
 have q0:Cut (cacheE (preC ys A c A1 c1 A2 c2) l room clock met miss) 1 3 [.int .i64 (wY ys:Nat),.int .i64 (hY ys:Nat),.slice none 0 0]:=⟨rfl,rfl⟩
 refine does_of Tryz.func108 rfl Tryz.ntmps108 rfl hown (fun n=>?_)
 simp only[slots]
 by_cases ho:x<0∨y<0∨(wY ys:Int)≤x∨(hY ys:Int)≤y
 ·have e:heightF (wY ys) (hY ys) f x y=(0,9):=if_pos ho
  rw[e]
  refine z_tas
  all_goals first
   | exact j_out2 rfl rfl rfl Sub.au ⟨_,rfl,.inl ⟨ho,rfl⟩,rfl⟩
   | (exfalso;omega)
 obtain⟨X,rfl⟩:∃X:Nat,x=X:=⟨x.toNat,by omega⟩
 obtain⟨Y,rfl⟩:∃Y:Nat,y=Y:=⟨y.toNat,by omega⟩
 have hXY:X<wY ys∧Y<hY ys:=by omega
 obtain⟨hn,hc1,hc2,hc3⟩:=cut_cell hF.good.2.1 hXY.1 hXY.2
 have hnt:=nT_le (W:=wY ys) (H:=hY ys) (by omega)
 have hcm:(Y:Int)/16*((cntF (wY ys):Nat):Int)=((Y/16*cntF (wY ys):Nat):Int):=by push_cast;rfl
 refine z_tas
 refine lfv (v:=.int .i64 (cntF (wY ys):Nat)) rfl rfl rfl (fun w _=>cnt_any (wY ys) w (by omega)) ?_
 refine z_tas
 refine j_set 44 _ rfl (congrArg (Value.int .i64) (show (Y:Int)/16*(cntF (wY ys):Nat)+(X:Int)/16=((Y/16*cntF (wY ys)+X/16:Nat):Int) by push_cast;rfl)) ?_
 refine lf rfl rfl rfl (S:=CaT.H ⟨g,ys,A,c,A1,c1,A2,c2,room⟩ ⟨l,clock,met,miss⟩) (fun w hw ho=>getc_any g ys A A1 A2 c c1 c2 l room (Y/16*cntF (wY ys)+X/16) clock met miss w ho h.slts e1 hrm (by omega) hF.u8 hF.len hF.op hn (fun i hi=>⟨_,hF.good.til hi⟩)) ?_
 rintro v S' ⟨k,l',met',miss',hk,rfl,hg,rfl⟩
 obtain⟨g1,g2⟩:=gets_ok (s':=⟨l',clock+1,met',miss'⟩) hF h hn hk hg rfl
 have hkl:k<l'.length:=by have:l'.length=32:=g1.len;omega
 have gw:(l'.getD k default).w=_:=g2.2.1
 have gz:(l'.getD k default).z.take _=_:=g2.2.2
 have iw:Get (cacheE (preC ys A c A1 c1 A2 c2) l' room (clock+1) met' miss') (9+k*259+1) (.int .i64 (tilW (wY ys) (hY ys) (Y/16*cntF (wY ys)+X/16):Nat)):=⟨by rw[cacheE_w hp g1.slts hkl,gw]⟩
 have hzl:=cutN_le (W:=wY ys) (H:=hY ys) (z:=f) (i:=Y/16*cntF (wY ys)+X/16) hF.good.2.1
 rw[Nat.add_mul,Nat.one_mul]at hc1
 have iz:Get (cacheE (preC ys A c A1 c1 A2 c2) l' room (clock+1) met' miss') (9+k*259+2+(Y%16*tilW (wY ys) (hY ys) (Y/16*cntF (wY ys)+X/16)+X%16)) (.int .i16 (f.getD (Y*wY ys+X) 0)):=⟨by
  rw[Nat.add_assoc (9+k*259) 2,cacheE_z hp g1.slts hkl (by omega),← hc3,← gz,getD_takeZ (by omega)]⟩
 have hcz:(Y:Int)%16*((tilW (wY ys) (hY ys) (Y/16*cntF (wY ys)+X/16):Nat):Int)=((Y%16*tilW (wY ys) (hY ys) (Y/16*cntF (wY ys)+X/16):Nat):Int):=by push_cast;rfl
 refine z_tas
 refine c_dv (0::1::2::3::4::5::6::7::8::9::10::11::12::13::14::15::[]) ?_;intro _
 refine z_govG
 have e:heightF (wY ys) (hY ys) f X Y=if f.getD (Y*wY ys+X) 0 = -32768 then (0,8)else (f.getD (Y*wY ys+X) 0,0):=by
  have e0:((Y:Int)*(wY ys:Int)+(X:Int)).toNat=Y*wY ys+X:=by
   rw[← Int.natCast_mul,← Int.natCast_add,Int.toNat_natCast]
  unfold heightF
  rw[if_neg ho,e0]
 rw[e]
 refine j_set 56 _ rfl (congrArg (Value.int .i64) (show (Y:Int)%16*((tilW (wY ys) (hY ys) (Y/16*cntF (wY ys)+X/16):Nat):Int)+(X:Int)%16=((Y%16*tilW (wY ys) (hY ys) (Y/16*cntF (wY ys)+X/16)+X%16:Nat):Int) by push_cast;rfl)) ?_
 refine z_govG
 all_goals first
  | exact j_out2 rfl rfl rfl Sub.au ⟨⟨l',clock+1,met',miss'⟩,by rw[if_pos (by assumption)],.inr ⟨ho,k,hk,hg,rfl⟩,rfl⟩
  | exact j_out2 rfl rfl rfl Sub.au ⟨⟨l',clock+1,met',miss'⟩,by rw[if_neg (by assumption)],.inr ⟨ho,k,hk,hg,rfl⟩,rfl⟩
def zeroS:List Slt:=List.replicate 32 ⟨0,0,List.replicate 256 0,0⟩
@[reducible] def zpre1:List Value:=[.int .i64 0,.int .i64 0,.slice none 0 0,.int .i64 0,.int .i32 0,.int .i32 0,.slice none 0 0,.slice none 0 0]
def zC:Value:=.agg (cacheE (.slice none 0 0::zpre1) zeroS 0 0 0 0).toArray
set_option maxRecDepth 100000 in
instance:Inf Tryz.prog 182 8301 17312 zC:=⟨Tryz.t182,by kernel_rfl,by kernel_rfl,rfl,rfl⟩
instance:ZC zC (cacheE (.slice none 0 0::zpre1) zeroS 0 0 0 0):=⟨rfl⟩
set_option maxRecDepth 10000 in
theorem zeroS_ok:Slts zeroS∧zeroS.length=32:=⟨fun s hs=>by rw[List.eq_of_mem_replicate hs];exact List.length_replicate ..,List.length_replicate ..⟩
instance {pre vs o:List Value}{l:List Slt}{room clock met miss:Int}{q:Nat}[h:Over pre q vs o]:Over (cacheE pre l room clock met miss) q vs (cacheE o l room clock met miss):=⟨by
 obtain⟨h1,h2⟩:=h.h
 unfold cacheE
 refine⟨?_,by rw[List.length_append];omega⟩
 rw[List.take_append_of_le_length (by omega),List.drop_append_of_le_length (by omega),← List.append_assoc,h1]⟩
theorem getD_mem{l:List Slt}{i:Nat}(h:i<l.length):l.getD i default∈l:=by rw[List.getD_eq_getElem?_getD,List.getElem?_eq_getElem h];exact List.getElem_mem ..
theorem cacheE_setRoom{pre:List Value}{l:List Slt}{room clock met miss:Int}(hp:pre.length=9)(hl:Slts l)(h32:l.length=32)(x:Int):(cacheE pre l room clock met miss).set 8297 (.int .i64 x)=cacheE pre l x clock met miss:=by
 have hs:=slotsE_len hl
 unfold cacheE
 rw[List.set_append_right _ _ (by omega),List.set_append_right _ _ (by omega),hp,hs,h32]
 rfl
instance (v:Value)(x:Int):Over (cacheE (v::zpre1) zeroS 0 0 0 0) 8297 [.int .i64 x] (cacheE (v::zpre1) zeroS x 0 0 0):=by
 have:=over_set (cs:=cacheE (v::zpre1) zeroS 0 0 0 0) (q:=8297) (.int .i64 x) (by rw[cacheE_len rfl zeroS_ok.1 zeroS_ok.2];decide)
 rw[cacheE_setRoom rfl zeroS_ok.1 zeroS_ok.2]at this
 exact this
theorem chart_c(K:CaT)(s:CaV)(w:World)(hown:Own (K.H s) w):
  Does Tryz.prog 163 [.pointer (some ⟨K.g,0,none⟩)] (K.H s) w (fun v S'=>v=.agg #[.int .i64 (wY K.ys:Nat),.int .i64 (hY K.ys:Nat),.slice none 0 0,.int .i64 (cellY K.ys:Nat),.int .i32 (i32N (leY K.ys 10 4)),.int .i32 (i32N (leY K.ys 14 4))]∧S'=K.H s):=by
 obtain⟨g,ys,A,c,A1,c1,A2,c2,room⟩:=K
 obtain⟨l,clock,met,miss⟩:=s
 simp only
 have q0:Cut (cacheE (preC ys A c A1 c1 A2 c2) l room clock met miss) 1 6 [.int .i64 (wY ys:Nat),.int .i64 (hY ys:Nat),.slice none 0 0,.int .i64 (cellY ys:Nat),.int .i32 (i32N (leY ys 10 4)),.int .i32 (i32N (leY ys 14 4))]:=⟨rfl,rfl⟩
 refine does_of Tryz.func163 rfl Tryz.ntmps163 rfl hown (fun n=>?_)
 simp only[slots]
 refine z_tas
 refine j_outK (S':=CaT.H ⟨g,ys,A,c,A1,c1,A2,c2,room⟩ ⟨l,clock,met,miss⟩) Sub.au ?_
 refine z_rk
 exact⟨rfl,rfl⟩
def newTo:Nat→List Slt
 | 0=>zeroS
 | i+1=>(newTo i).set i { (newTo i).getD i default with t:=-1 }
theorem newTo_ok:∀i,Slts (newTo i)∧(newTo i).length=32
 | 0=>zeroS_ok
 | i+1=>by
  obtain⟨h1,h2⟩:=newTo_ok i
  refine⟨?_,by rw[newTo,List.length_set,h2]⟩
  rw[newTo]
  rcases Nat.lt_or_ge i 32 with h|h
  ·exact h1.set i (h1 ((newTo i).getD i default) (getD_mem (by omega)))
  ·rw[List.set_eq_of_length_le (by omega)];exact h1
theorem newTo_neg:∀i,i≤32→∀k,k<i→((newTo i).getD k default).t = -1
 | 0,_,k,h=>by omega
 | i+1,hi,k,h=>by
  have h2:=(newTo_ok i).2
  rw[newTo]
  by_cases e:k=i
  ·subst e;rw[getD_set_self (by omega)]
  ·have:((newTo i).set i { (newTo i).getD i default with t:=-1 }).getD k default=(newTo i).getD k default:=by rw[List.getD_eq_getElem?_getD,List.getElem?_set_ne (fun x=>e x.symm),List.getD_eq_getElem?_getD]
   rw[this];exact newTo_neg i (by omega) k (by omega)
def newV(room:Nat):CaV:=⟨newTo room,0,0,0⟩
theorem newV_ok{ys f:List Int}{room:Nat}(hr:room≤32):CaOk ys f room (newV room) 0 :=
 ⟨(newTo_ok room).2,(newTo_ok room).1,fun k hk h=>by rw[show ((newV room).l.getD k default).t = -1 from newTo_neg room hr k hk]at h;omega,⟨Int.le_refl _,Int.le_refl _⟩,⟨Int.le_refl _,Int.le_refl _⟩,⟨Int.le_refl _,Int.le_refl _⟩⟩
def NewR(ys:List Int)(room:Int)(v:Value)(S':List HE):Prop :=
 (∃code:Int,code≠0∧v=.tuple #[.pointer none,.int .i64 code]∧S'=[]∧(((room<4∨32<room)∧code=12)∨(¬(room<4∨32<room)∧GetC ys code))) ∨
 (¬(room<4∨32<room)∧GetC ys 0∧∃K:CaT,K.ys=ys∧(K.room:Int)=room∧v=.tuple #[.pointer (some ⟨K.g,0,none⟩),.int .i64 0]∧S'=K.H (newV K.room))
theorem new_c(A:Option Addr)(c:Nat)(ys:List Int)(room:Int)(w:World)(hr:RoA w (blocks []) A ys.length c 1 (ints .u8 ys))(hu:U8s ys)(hm:ys.length<100000000)(hrm:InR .i64 room):
  Does Tryz.prog 46 [.slice A ys.length c,.int .i64 room] [] w (NewR ys room):=by
 refine does_of Tryz.func46 rfl Tryz.ntmps46 rfl ⟨by simp,.nil⟩ (fun n=>?_)
 simp only[slots]
 by_cases ho:room<4∨32<room
 ·refine z_tas
  all_goals first
   | exact j_out2 rfl rfl rfl (.nil _) (.inl ⟨12,by decide,rfl,rfl,.inl ⟨ho,rfl⟩⟩)
   | (exfalso;omega)
 obtain⟨R,rfl⟩:∃R:Nat,room=R:=⟨room.toNat,by omega⟩
 refine z_tas
 refine lf rfl rfl rfl (S:=[]) (fun w hw ho=>get_any9 A c ys w ⟨hr.h.go hw (Split.nil _)⟩ hu hm) ?_
 rintro v S' hget
 rcases hget with⟨code,hne,hgc2,rfl,rfl⟩ | ⟨hgc,g,Ag,cg,hgl,hgg,rfl,rfl⟩
 ·refine z_tas
  exact j_out2 rfl rfl rfl (.nil _) (.inl ⟨code,hne,rfl,rfl,.inr ⟨ho,hgc2⟩⟩)
 refine z_tas
 rename_i b0 b1 A' c' gC
 refine lf rfl rfl rfl (S:=[]) (fun w hw ho=>open_any A' c' ys w ⟨Ro.row hw (Split.nil _) (by refine z_hs)⟩ hu hm) ?_
 have hoc:openC ys=0:=by
  rcases hgc with⟨h,-⟩ | ⟨h,-⟩ | ⟨h,-⟩
  ·exact absurd rfl h
  ·exact h
  ·exact h
 rintro v S' (⟨-,A1,c1,A2,c2,rfl,rfl⟩ | ⟨h,-⟩)
 case inr=>exact absurd hoc h
 refine z_tas
 refine c_loop (X:=Nat) (fun i=>i≤R) (fun i=>[(8,.pointer (some ⟨gC,0,none⟩)),(41,.int .i64 R),(42,.int .i64 i)]) (fun i=>CaT.H ⟨gC,ys,A',c',A1,c1,A2,c2,R⟩ ⟨newTo i,0,0,0⟩) (fun i=>R-i) 0 (by omega) ⟨rfl,rfl,rfl,trivial⟩ (show Sub (CaT.H ⟨gC,ys,A',c',A1,c1,A2,c2,R⟩ ⟨zeroS,0,0,0⟩) _ from Sub.au) ?_
 intro i hi
 obtain⟨n1,n2⟩:=newTo_ok i
 rcases Nat.lt_or_ge i R with h|h
 ·have o1:SetAt (cacheE (preC ys A' c' A1 c1 A2 c2) (newTo i) R 0 0 0) (9+i*259) (.int .i64 (-1)) (cacheE (preC ys A' c' A1 c1 A2 c2) (newTo (i+1)) R 0 0 0):=⟨cacheE_setT rfl n1 (by omega) _,by rw[cacheE_len rfl n1 n2];omega⟩
  refine z_tas
  exact c_round (i+1) h (by show R-(i+1)<R-i;omega) ⟨rfl,rfl,by simp[look],trivial⟩ Sub.au
 ·obtain rfl:i=R:=by omega
  refine z_tas
  exact j_out2 rfl rfl rfl (show Sub (CaT.H ⟨gC,ys,A',c',A1,c1,A2,c2,i⟩ ⟨newTo i,0,0,0⟩) _ from Sub.au) (.inr ⟨ho,hgc,⟨gC,ys,A',c',A1,c1,A2,c2,i⟩,rfl,rfl,rfl,rfl⟩)
theorem caF_of{W H cell:Nat}{ox oy:Int}{f:List Int}{R:Nat}(hW:2≤W∧W≤256∧2≤H∧H≤256∧1≤cell∧cell≤1000)(hz:f.length=W*H)(hi:In16 f)(hR:1≤R∧R≤32):CaF (chartB W H cell ox oy f) f R :=
 ⟨chartB_u8 W H cell ox oy f,by have:=chart_big (cell:=cell) (ox:=ox) (oy:=oy) (by omega:W≤256∧H≤256) hz;omega,chart_opens hW hz,chart_good hW hz hi,hR⟩
end Go.Proofs.YthajpemlpmlefaaGreat
