import Derived.Test.YtbhchphfmhmabaaGreatP14
import Derived.Test.YtbhchphfmhmabaaGreatP17
set_option maxHeartbeats 512000000
set_option maxRecDepth 4000
set_option linter.unusedVariables false
set_option linter.unusedSimpArgs false
namespace Go.Proofs.YtbhchphfmhmabaaGreat
open Go.RowKit _root_.Go.Proofs.Tryz
def yP(ys:List Int)(f:List Int):Prop:=fD f∧f.length=wY ys*hY ys∧∀j,j<nY ys→nS ys j=pH (wY ys) (hY ys) f j
theorem yP.til{ys f:List Int}(h:yP ys f){i:Nat}(hi:i<nY ys):nH ys i (jM (wY ys) (hY ys) f i):=⟨aC9 h.2.1,aKn h.1 _ _ _,h.2.2 i hi⟩
theorem nH.one{ys a b:List Int}{i:Nat}(hi:i<nY ys)(h:nH ys i a)(g:nH ys i b):a=b:=by have hb:=aB6 (W:=wY ys) (H:=hY ys) hi;have e:=h.2.2.symm.trans g.2.2;have e2:=congrArg (fun l=>l.take (l.length-4)) e;simp only[aJi]at e2;exact aQ6 (by omega:0<dX (wY ys) (hY ys) i) (by rw[h.1,g.1]) g.2.1 h.2.1 e2
def rJ(ys:List Int)(code:Int):Prop:=(code≠0∧lI ys=code)∨(lI ys=0∧∃i,i<nY ys∧aBk ys i code∧(∀z,¬nH ys i z)∧∀j,j<i→∃z,nH ys j z)∨(lI ys=0∧code=0∧∀j,j<nY ys→∃z,nH ys j z)
def aPc(ys:List Int)(v:Value)(S':List HE):Prop :=
 (∃code,code≠0∧rJ ys code∧v=.tuple #[.agg #[.int .i64 0,.int .i64 0,.slice none 0 0,.int .i64 0,.int .i32 0,.int .i32 0],.int .i64 code]∧S'=[]) ∨
 (rJ ys 0∧∃(g:List Int) (A:Option Addr) (c:Nat),g.length=wY ys*hY ys∧(∀f,yP ys f→g=f)∧v=.tuple #[.agg #[.int .i64 (wY ys:Nat),.int .i64 (hY ys:Nat),.slice A g.length c,.int .i64 (mR ys:Nat),.int .i32 (jN (dN ys 10 4)),.int .i32 (jN (dN ys 14 4))],.int .i64 0] ∧
  S'=[.row (.slice A g.length c) 95 1 g.length (aD .i16 g)])
theorem aVg(W H m:Nat)(A B:Option Addr)(c d:Nat)(z ys:List Int)(X Y:Int)(w:World)(hzm:z.length=m)(hown:aZ [.row (.slice A m c) 95 1 m (aD .i16 z)] w)(hr:bP w (bB [.row (.slice A m c) 95 1 m (aD .i16 z)]) B ys.length d 1 (aD .i16 ys))(hX:bG .i64 X)(hY:bG .i64 Y)(hm:2≤W∧W≤256∧2≤H∧H≤256)(hz:z.length=W*H)(hc:z.length≤c)(hyb:ys.length<1000000)(hys:ys.length=(cU W H X Y).2.2.1*(cU W H X Y).2.2.2∧0<(cU W H X Y).2.2.1):
  aF prog 142 [.agg #[.int .i64 W,.int .i64 H,.slice A m c],.agg #[.int .i64 X,.int .i64 Y],.slice B ys.length d] [.row (.slice A m c) 95 1 m (aD .i16 z)] w
   (fun v S'=>v=.bool true∧S'=[.row (.slice A m c) 95 1 m (aD .i16 (pV ys W (cU W H X Y).1 (cU W H X Y).2.1 (cU W H X Y).2.2.1 z (cU W H X Y).2.2.2))]):=by
 subst hzm;refine(aVe W H A B c d z ys X Y w hown hr hX hY hm hz hc hyb).mono ?_;rintro v S' (⟨h1,-,-,h2⟩ | ⟨-,h2,-⟩)
 ·exact⟨h1,h2⟩
 ·exact absurd hys h2
attribute [local irreducible] OJ J bM Code.wpIn wpListIn Oper.wpIn bodyPost CallsIn aF
theorem aTx(A:Option Addr)(c:Nat)(ys:List Int)(w:World)(hr:bP w (bB []) A ys.length c 1 (aD .u8 ys))(hu:dL ys)(hm:ys.length<100000000):
  aF prog 101 [.slice A ys.length c] [] w (aPc ys):=by
 refine aJ func101 rfl ntmps101 rfl ⟨aE,.nil⟩ (fun n=>?_);simp only[aG];refine aB;rename_i b2;refine lf rfl rfl rfl (S:=[]) (fun w hw ho=>aM7 A c ys w ⟨hr.h.go hw (aC.nil _)⟩ hu hm) ?_;rintro v S' hop;rcases hop with⟨hoc,A1,c1,A2,c2,rfl,rfl⟩ | ⟨hoc,rfl,rfl⟩
 rotate_left
 ·generalize hcode:lI ys=code at *;refine aB;all_goals first
   | (refine bK;exact .inl ⟨code,hoc,.inl ⟨hoc,hcode⟩,rfl,rfl⟩)
   | (exfalso;omega)
 have hO:=(aM6 ys).1 hoc;have hrg:=hO.rng;unfold qB at hrg;have hal:=aEh ys (nY ys);have hsl:=aHi ys (nY ys);have hn:nY ys≤256:=wM oo;have hnp:1≤nY ys:=aWe oo;have hpl:=zK (wY ys) (nY ys);have hWH:wY ys*hY ys≤65536:=by have:=Nat.mul_le_mul (show wY ys≤256 by omega) (show hY ys≤256 by omega);omega
 have hmul:(wY ys:Int)*(hY ys:Int)=((wY ys*hY ys:Nat):Int):=by push_cast;rfl
 have hmi:0≤(wY ys:Int)*(hY ys:Int)∧(wY ys:Int)*(hY ys:Int)≤65536:=by rw[hmul];omega
 refine aB;rename_i b4 b6;refine eY 28 _ rfl (v':=.int .i64 (wY ys*hY ys:Nat)) (by rw[hmul]) ?_;refine aB;rename_i bg;refine lf rfl rfl rfl (S:=[]) (fun w hw ho=>aB0 (wY ys) (hY ys) w oo) ?_;rintro v S' ⟨Ap,cp,rfl,rfl⟩;have hnn:nT (wY ys) (hY ys)=nY ys:=rfl;rw[hnn];refine aB;refine eY 39 _ rfl (v':=.int .i64 (nY ys:Nat)) (by rw[hpl]) ?_;refine cG (X:=Nat×List Int) (fun q=>q.1≤nY ys∧q.2.length=wY ys*hY ys∧(∀j,j<q.1→∃z,nH ys j z)∧∀f,yP ys f→uE (wY ys) (hY ys) f q.2 q.1)
  (fun q=>[(0,.slice A ys.length c),(2,.pointer (some ⟨b2,0,none⟩)),(4,.pointer (some ⟨b4,0,none⟩)),(5,.int .i64 0),(6,.pointer (some ⟨b6,0,none⟩)),(38,.slice Ap (gJ (wY ys) (nY ys)).length cp),(39,.int .i64 (nY ys:Nat)),(40,.int .i64 q.1)])
  (fun q=>[.row (.slice (some ⟨bg,0,none⟩) (wY ys*hY ys) (wY ys*hY ys)) 95 1 (wY ys*hY ys) (aD .i16 q.2),.blk b6 43 [.int .i64 (wY ys:Nat),.int .i64 (hY ys:Nat),.slice (some ⟨bg,0,none⟩) (wY ys*hY ys) (wY ys*hY ys),.int .i64 (mR ys:Nat),.int .i32 (jN (dN ys 10 4)),.int .i32 (jN (dN ys 14 4))],.row (.slice Ap (gJ (wY ys) (nY ys)).length cp) 177 2 (gJ (wY ys) (nY ys)).length (aO yG (gJ (wY ys) (nY ys))),.blk b4 187 [.int .i64 (wY ys:Nat),.int .i64 (hY ys:Nat),.slice none 0 0,.int .i64 (mR ys:Nat),.int .i32 (jN (dN ys 10 4)),.int .i32 (jN (dN ys 14 4)),.slice A1 (dS ys (nY ys)).length c1,.slice A2 (dT ys (nY ys)).length c2],.row (.slice A1 (dS ys (nY ys)).length c1) 3 1 (dS ys (nY ys)).length (aD .i64 (dS ys (nY ys))),.row (.slice A2 (dT ys (nY ys)).length c2) 3 1 (dT ys (nY ys)).length (aD .i64 (dT ys (nY ys))),.blk b2 43 [.int .i64 0,.int .i64 0,.slice none 0 0,.int .i64 0,.int .i32 0,.int .i32 0]]) (fun q=>nY ys-q.1) (0,List.replicate (wY ys*hY ys) 0) ⟨aE,aE,fun j hj=>by omega,fun f hf=>uE.zero aE⟩ ⟨rfl,rfl,rfl,rfl,rfl,rfl,rfl,rfl,trivial⟩ aA.au ?_
 rintro⟨i,g⟩ ⟨hi,hgl,hj,hg⟩;dsimp only at hi hgl hj hg ⊢;rcases Nat.lt_or_ge i (nY ys) with h|h
 ·have hpg:=aD5 (wY ys) _ i h;obtain⟨hX,hY'⟩:=aDo (W:=wY ys) (H:=hY ys) (i:=i) oo h;have hbx:=aB6 (W:=wY ys) (H:=hY ys) h;refine aB;simp only[hpg];refine lf rfl rfl rfl (S:=[]) (fun w hw ho=>aJn A c ys A1 A2 c1 c2 i w ⟨hr.h.go hw (aC.nil _)⟩ ⟨Ro.row hw (aC.nil _) (by refine cF)⟩ ⟨Ro.row hw (aC.nil _) (by refine cF)⟩ hu hm hO h) ?_;rintro v S' ⟨zs,Az,cz,code,T,rfl,rfl,hz⟩;refine jP (H':=.row (.slice Az zs.length cz) 95 1 zs.length (aD .i16 zs)::_) (.cons (.here _ _) (aA.appR T _)) ?_;rcases hz with⟨rfl,hok⟩ | ⟨hcode,rfl,hno⟩
  rotate_left
  ·have hne:=hcode.ne;refine aB;all_goals first
    | (exfalso;omega)
    | (refine bK;exact .inl ⟨code,hne,.inr (.inl ⟨hoc,i,h,hcode,hno,hj⟩),rfl,rfl⟩)
  ·have hzl:zs.length≤256:=by have:=Nat.mul_le_mul hbx.2.1 hbx.2.2.2;rw[hok.1];exact this
   refine aB;refine fO (S:=[.row (.slice (some ⟨bg,0,none⟩) (wY ys*hY ys) (wY ys*hY ys)) 95 1 (wY ys*hY ys) (aD .i16 g)]) rfl rfl (by first|exact(aC.cons (.there _ (.here _ _)) (aC.nil _))|exact(aC.cons (.there _ (.there _ (.here _ _))) (aC.nil _))|exact(aC.cons (.there _ (.there _ (.there _ (.here _ _)))) (aC.nil _))) rfl (fun w hw ho=>aVg (wY ys) (hY ys) (wY ys*hY ys) (some ⟨bg,0,none⟩) Az (wY ys*hY ys) cz g zs (tX (wY ys) i) (tY (wY ys) i) w hgl ho ⟨Ro.row hw (by first|exact(aC.cons (.there _ (.here _ _)) (aC.nil _))|exact(aC.cons (.there _ (.there _ (.here _ _))) (aC.nil _))|exact(aC.cons (.there _ (.there _ (.there _ (.here _ _)))) (aC.nil _))) (by refine cF)⟩ hX hY' oo hgl oo oo ⟨hok.1,by show 0<dX _ _ _;omega⟩) ?_;rintro v S' ⟨rfl,rfl⟩;refine aB;refine aR (i+1,pV zs (wY ys) (cU (wY ys) (hY ys) (tX (wY ys) i) (tY (wY ys) i)).1 (cU (wY ys) (hY ys) (tX (wY ys) i) (tY (wY ys) i)).2.1 (cU (wY ys) (hY ys) (tX (wY ys) i) (tY (wY ys) i)).2.2.1 g (cU (wY ys) (hY ys) (tX (wY ys) i) (tY (wY ys) i)).2.2.2) ⟨by show i+1≤_;omega,?_,fun j hjj=>?_,fun f hf=>?_⟩ (by show _-(i+1)<_-i;omega) ⟨rfl,rfl,rfl,rfl,rfl,rfl,rfl,by simp[aI],trivial⟩ aA.au
   ·have hbi:=vV (wY ys) (hY ys) (tX (wY ys) i) (tY (wY ys) i);exact aAp hgl hbi.1 hbi.2.1 hok.1 _ (Nat.le_refl _)
   ·rcases Nat.lt_or_ge j i with h1|h1
    ·exact hj j h1
    ·rw[show j=i by have:j<i+1:=hjj;omega];exact⟨zs,hok⟩
   ·have e:=nH.one h hok (hf.til h);subst e;exact(hg f hf).next hf.2.1 h
 ·obtain rfl:i=nY ys:=oo;refine aB;refine eC (.cons (.here _ _) (.nil _)) ?_;refine cZ;refine .inr ⟨.inr (.inr ⟨hoc,rfl,hj⟩),g,some ⟨bg,0,none⟩,wY ys*hY ys,hgl,fun f hf=>(hg f hf).all hf.2.1,by rw[hgl];rfl,by rw[hgl]⟩
theorem aVz(a b:Int)(ha:bG .u8 a)(hb:bG .u8 b)(W H:Nat)(hW:2+a%39=W)(hH:2+b%39=H)(A:Option Addr)(c:Nat)(z:List Int)(cell:Int)(hc:bG .u16 cell)(ox oy:Int)(w:World)(hr:bP w (bB []) A z.length c 1 (aD .i16 z))(hm:z.length<1000000):
  aF prog 14 [.int .u8 a,.int .u8 b,.slice A z.length c,.int .u16 cell,.int .i32 ox,.int .i32 oy] [] w (fun v S'=>∃A' c',v=.agg #[.int .i64 W,.int .i64 H,.slice A' (lQ z (W*H)).length c',.int .i64 (1+cell%1000),.int .i32 ox,.int .i32 oy]∧S'=[.row (.slice A' (lQ z (W*H)).length c') 95 1 (lQ z (W*H)).length (aD .i16 (lQ z (W*H)))]):=by
 have hc1:0≤cell∧cell≤65535:=hc;refine aJ func14 rfl ntmps14 rfl ⟨aE,.nil⟩ (fun n=>?_);simp only[aG];refine aB;refine lf rfl rfl rfl (S:=[]) (fun w hw ho=>aT9 a b ha hb W H hW hH A c z w ⟨hr.h.go hw (aC.nil _)⟩ hm) ?_;rintro v S' ⟨Af,cf,rfl,rfl⟩;refine aB;refine eC (.cons (.here _ _) (.nil _)) ?_;refine cZ;exact⟨_,_,rfl,rfl⟩
theorem bCr(x:Int): -32768≤IntKind.i16.wrap x∧IntKind.i16.wrap x≤32767:=by
 have h:IntKind.i16.wrap x=if 32768≤x%65536 then x%65536-65536 else x%65536:=by simp[IntKind.wrap,IntKind.bits,IntKind.signed]
 rw[h];split<;>omega
theorem aTa{z:List Int}(hz:∀v∈z,bG .i16 v)(m:Nat):fD (lQ z m):=aUl fun v hv=>by
 unfold lQ at hv;obtain⟨i,-,rfl⟩:=List.mem_map.1 hv;unfold wG;split
 ·rename_i h;rw[List.getD_eq_getElem?_getD,List.getElem?_eq_getElem h];exact hz _ (List.getElem_mem ..)
 split
 ·exact bCr _
 ·show -32768≤((i%7:Nat):Int)∧((i%7:Nat):Int)≤32767;omega
theorem aJ4{W H cell:Nat}{ox oy:Int}{z:List Int}(hW:2≤W∧W≤256∧2≤H∧H≤256∧1≤cell∧cell≤1000)(hz:z.length=W*H)(hi:fD z):yP (fK W H cell ox oy z) z:=by obtain⟨-,h2,h3,-⟩:=aC0 (W:=W) (H:=H) (cell:=cell) (ox:=ox) (oy:=oy) (z:=z) oo;refine⟨hi,by rw[h2,h3,hz],fun j hj=>?_⟩;rw[h2,h3];exact aRz oo hz (by unfold nY at hj;rw[h2,h3]at hj;exact hj)
theorem aRy{W H cell:Nat}{ox oy:Int}{z:List Int}(hW:2≤W∧W≤256∧2≤H∧H≤256∧1≤cell∧cell≤1000)(hz:z.length=W*H)(hi:fD z):rJ (fK W H cell ox oy z) 0 :=
 .inr (.inr ⟨(aM6 _).2 (aJ5 hW hz),rfl,fun j hj=>⟨_,(aJ4 hW hz hi).til hj⟩⟩)
theorem aRw{W H cell:Nat}{ox oy:Int}{z:List Int}(hW:W≤256∧H≤256)(hz:z.length=W*H):fV W H≤(fK W H cell ox oy z).length∧(fK W H cell ox oy z).length<1000000:=by have h1:=wM hW;have h2:=aBr hz (nT W H);rw[aJ3];have:fV W H=22+6*nT W H:=rfl;omega
end Go.Proofs.YtbhchphfmhmabaaGreat
namespace Go.Proofs.YtbhchphfmhmabaaGreat
open Go.RowKit _root_.Go.Proofs.Tryz
section
variable {N:Nat} {ds:List Deferred} {w0:World} {W:Nat→Prop} {σ:List (Nat×Value)} {H R:List HE} {q:Act→World→Prop}
end
def mF(W H:Nat)(z:List Int)(x y:Int):Int×Int :=
 if x<0∨y<0∨(W:Int)≤x∨(H:Int)≤y then (0,9)else if z.getD (y*W+x).toNat 0 = -32768 then (0,8)else (z.getD (y*W+x).toNat 0,0)
structure eJ where
 t:Int
 w:Int
 z:List Int
 u:Int
instance:Inhabited eJ:=⟨⟨0,0,[],0⟩⟩
def lB(s:eJ):List Value:=.int .i64 s.t::.int .i64 s.w::(aD .i16 s.z++[.int .i64 s.u])
def oJ(l:List eJ):List Value:=l.flatMap lB
def gF(l:List eJ):Prop:=∀s∈l,s.z.length=256
def bS(pre:List Value)(l:List eJ)(room clock met miss:Int):List Value:=pre++(oJ l++[.int .i64 room,.int .i64 clock,.int .i64 met,.int .i64 miss])
theorem yF{s:eJ}(h:s.z.length=256):(lB s).length=259:=by simp[lB,aD,h]
theorem tS:∀{l:List eJ},gF l→(oJ l).length=259*l.length
 | [],_=>rfl
 | s::r,h=>by have h1:=yF (h s (List.mem_cons_self ..));have h2:=tS (l:=r) (fun x hx=>h x (List.mem_cons_of_mem _ hx));unfold oJ at h2 ⊢;rw[List.flatMap_cons,List.length_append,h1,h2,List.length_cons];omega
theorem aNm:∀{l:List eJ} (_:gF l) (i j:Nat),i<l.length→j<259→(oJ l)[i*259+j]? = (lB (l.getD i default))[j]?
 | [],_,i,j,hi,_=>by simp at hi
 | s::r,h,0,j,_,hj=>by
  have h1:=yF (h s (List.mem_cons_self ..));unfold oJ;rw[List.flatMap_cons,Nat.zero_mul,Nat.zero_add,List.getElem?_append_left oo];rfl
 | s::r,h,i+1,j,hi,hj=>by have h1:=yF (h s (List.mem_cons_self ..));have ih:=aNm (l:=r) (fun x hx=>h x (List.mem_cons_of_mem _ hx)) i j (by simpa using hi) hj;unfold oJ at ih ⊢;rw[List.flatMap_cons,List.getElem?_append_right oo,h1,show (i+1)*259+j-259=i*259+j by omega,ih];rfl
section
variable {pre:List Value} {l:List eJ} {room clock met miss:Int}
theorem aBy(hp:pre.length=9)(hl:gF l){i j:Nat}(hi:i<l.length)(hj:j<259):(bS pre l room clock met miss)[9+i*259+j]? = (lB (l.getD i default))[j]?:=by have hs:=tS hl;unfold bS;rw[List.getElem?_append_right oo,hp,show 9+i*259+j-9=i*259+j by omega,List.getElem?_append_left oo];exact aNm hl i j hi hj
theorem aIy(hp:pre.length=9)(hl:gF l){i:Nat}(hi:i<l.length):(bS pre l room clock met miss)[9+i*259]? = some (.int .i64 (l.getD i default).t):=aBy hp hl hi (j:=0) oo
theorem aRp(hp:pre.length=9)(hl:gF l){i:Nat}(hi:i<l.length):(bS pre l room clock met miss)[9+i*259+1]? = some (.int .i64 (l.getD i default).w):=aBy hp hl hi (j:=1) oo
theorem aRo(hp:pre.length=9)(hl:gF l){i:Nat}(hi:i<l.length):(bS pre l room clock met miss)[9+i*259+258]? = some (.int .i64 (l.getD i default).u):=by rw[aBy hp hl hi oo];have hm:(l.getD i default).z.length=256:=hl _ (by rw[List.getD_eq_getElem?_getD,List.getElem?_eq_getElem hi];exact List.getElem_mem ..);generalize l.getD i default=s at *;unfold lB;rw[List.getElem?_cons_succ,List.getElem?_cons_succ,List.getElem?_append_right (by rw[fW,hm];exact Nat.le_refl _),fW,hm];rfl
theorem aRq(hp:pre.length=9)(hl:gF l){i j:Nat}(hi:i<l.length)(hj:j<256):(bS pre l room clock met miss)[9+i*259+(2+j)]? = some (.int .i16 ((l.getD i default).z.getD j 0)):=by rw[aBy hp hl hi oo];have hm:(l.getD i default).z.length=256:=hl _ (by rw[List.getD_eq_getElem?_getD,List.getElem?_eq_getElem hi];exact List.getElem_mem ..);generalize l.getD i default=s at *;unfold lB;rw[show 2+j=j+1+1 by omega,List.getElem?_cons_succ,List.getElem?_cons_succ,List.getElem?_append_left (by rw[fW,hm];exact hj)];simp only[aD,List.getElem?_map,List.getD_eq_getElem?_getD,List.getElem?_eq_getElem (show j<s.z.length by omega)];rfl
theorem xN(hp:pre.length=9)(hl:gF l)(h32:l.length=32)(k:Nat):(bS pre l room clock met miss)[8297+k]? = [Value.int .i64 room,.int .i64 clock,.int .i64 met,.int .i64 miss][k]?:=by have hs:=tS hl;unfold bS;rw[List.getElem?_append_right oo,List.getElem?_append_right oo];congr 1;omega
end
class rO(P:Program)(e:TypeId)(sz:outParam Nat):Prop where h:∃i,P.info? e=some i∧i.size=sz
instance:rO prog 190 259:=⟨Tryz.t190,by kernel_rfl,by kernel_rfl⟩
instance (priority:=100) {P:Program}{w0:World}{W:Nat→Prop}{H:List HE}(x y:Operand)(t e m b q sz j r r':Nat)(k:IntKind)[hu:aN P t (.array m e)][hI:rO P e sz][hm:rL j sz r][hr:nG q r r']:LV P w0 W H (.indexAddr t x y) [.pointer (some ⟨b,q,none⟩),.int k (j:Int)] (.pointer (some ⟨b,r',none⟩)) (j<m):=⟨by rintro hi ρ ⟨dst,op',ty,pos,aft,gd⟩ rfl h w _;obtain⟨hx,hy⟩:=sK h;have h1:=hu.h;obtain⟨ii,h2,h3⟩:=hI.h;rw[← hr.h,← hm.h];simp[execOp,hx,hy,Instr.indexAt,run_underlying h1,asIntOf,sizeOf,typeInfo,h2,h3,hi,pL,Instr.sureAddr]⟩
instance (priority:=100) {P:Program}{w0:World}{W:Nat→Prop}{H:List HE}(x y:Operand)(t e m b q sz j r r':Nat)(k:IntKind)[hu:aN P t (.array m e)][hI:rO P e sz][hm:rL j sz r][hr:nG q r r']:MS P w0 W H (.indexAddr t x y) [.pointer (some ⟨b,q,none⟩),.int k (j:Int)] (.pointer (some ⟨b,r',none⟩)) (j<m) :=
 ⟨fun hc _ _ _ _ _ _ _ _ _ _ _ _ _ h1 h2 h3=>dW aE rfl h2 (fun a w ha _=>by obtain⟨p1,p2⟩:=dP h1;have g1:=hu.h;obtain⟨ii,g2,g3⟩:=hI.h;rw[← hr.h,← hm.h];simp[execOp,ha.eval p1,ha.eval p2,Instr.indexAt,run_underlying g1,asIntOf,sizeOf,typeInfo,g2,g3,hc,pL,Instr.sureAddr]) h3⟩
def oX(l:List eJ):Nat→Nat
 | 0=>0
 | i+1=>if (l.getD i default).u<(l.getD (oX l i) default).u then i else oX l i
theorem aGa(l:List eJ):∀i,0<i→oX l i<i
 | 0,h=>by omega
 | i+1,_=>by
  unfold oX;split
  ·omega
  ·rcases Nat.eq_zero_or_pos i with e|e
   ·subst e;simp[oX]
   ·have:=aGa l i e;omega
attribute [local irreducible] OJ J bM Code.wpIn wpListIn Oper.wpIn bodyPost CallsIn aF
theorem aX3(g:Nat)(pre:List Value)(l:List eJ)(room:Nat)(clock met miss:Int)(w:World)(hown:aZ [.blk g 193 (bS pre l room clock met miss)] w)(hp:pre.length=9)(hl:gF l)(h32:l.length=32)(hr:1≤room∧room≤32):
  aF prog 275 [.pointer (some ⟨g,0,none⟩)] [.blk g 193 (bS pre l room clock met miss)] w (fun v S'=>∃k,k<room∧v=.pointer (some ⟨g,9+k*259,none⟩)∧(((l.getD k default).t<0∧∀j,j<k→0≤(l.getD j default).t)∨((∀j,j<room→0≤(l.getD j default).t)∧k=oX l room))∧S'=[.blk g 193 (bS pre l room clock met miss)]):=by
 have i0:dG (bS pre l room clock met miss) 8297 (.int .i64 room):=⟨xN hp hl h32 0⟩;have ft:=fun i (hi:i<32)=>aIy (pre:=pre) (l:=l) (room:=room) (clock:=clock) (met:=met) (miss:=miss) hp hl (i:=i) oo;have fu:=fun i (hi:i<32)=>aRo (pre:=pre) (l:=l) (room:=room) (clock:=clock) (met:=met) (miss:=miss) hp hl (i:=i) oo;refine aJ func275 rfl ntmps275 rfl hown (fun n=>?_);simp only[aG];generalize bS pre l room clock met miss=cs at *;refine aB;refine cG (X:=Nat) (fun i=>i≤room∧∀j,j<i→0≤(l.getD j default).t) (fun i=>[(0,.pointer (some ⟨g,0,none⟩)),(3,.int .i64 (oX l i:Nat)),(8,.int .i64 room),(9,.int .i64 i)]) (fun _=>[.blk g 193 cs]) (fun i=>room-i) 0 ⟨oo,fun j hj=>by omega⟩ ⟨rfl,rfl,rfl,rfl,trivial⟩ (aA.refl _) ?_;rintro i ⟨hi,hj⟩;rcases Nat.lt_or_ge i room with h|h
 ·have i1:dG cs (9+i*259) (.int .i64 (l.getD i default).t):=⟨ft i oo⟩;have i2:dG cs (9+i*259+258) (.int .i64 (l.getD i default).u):=⟨fu i oo⟩;have ho:oX l i<32:=by
   rcases Nat.eq_zero_or_pos i with e|e
   ·subst e;simp[oX]
   ·have:=aGa l i e;omega
  have i3:dG cs (9+oX l i*259+258) (.int .i64 (l.getD (oX l i) default).u):=⟨fu _ ho⟩;have e:=oX.eq_2 l i;refine aB
  ·exact aM rfl rfl (aA.refl _) ⟨i,h,rfl,.inl ⟨oa,hj⟩,rfl⟩
  ·refine aR (i+1) ⟨oo,fun j hjj=>?_⟩ (by show room-(i+1)<room-i;omega) ⟨rfl,by rw[e,if_pos oa];rfl,rfl,by simp[aI],trivial⟩ (aA.refl _);rcases Nat.lt_or_ge j i with h1|h1
   ·exact hj j h1
   ·rw[show j=i by omega];omega
  ·refine aR (i+1) ⟨oo,fun j hjj=>?_⟩ (by show room-(i+1)<room-i;omega) ⟨rfl,by rw[e,if_neg oa];rfl,rfl,by simp[aI],trivial⟩ (aA.refl _);rcases Nat.lt_or_ge j i with h1|h1
   ·exact hj j h1
   ·rw[show j=i by omega];omega
 ·obtain rfl:i=room:=oo;have ho:=aGa l i oo;refine aB;exact aM rfl rfl (aA.refl _) ⟨oX l i,ho,rfl,.inr ⟨hj,rfl⟩,rfl⟩
theorem aXn{cs:List Value}{q:Nat}(v:Value)(h:q<cs.length):jD cs q [v] (cs.set q v):=⟨by refine⟨?_,by show q+1≤cs.length;exact h⟩;rw[List.set_eq_take_append_cons_drop,if_pos h];simp⟩
theorem aNo:∀{l:List eJ} (_:gF l) (i j:Nat) (v:Value) (s':eJ),i<l.length→j<259→lB s'=(lB (l.getD i default)).set j v→oJ (l.set i s')=(oJ l).set (i*259+j) v
 | [],_,i,j,v,s',hi,_,_=>by simp at hi
 | s::r,h,0,j,v,s',_,hj,e=>by
  have h1:=yF (h s (List.mem_cons_self ..));have e':lB s'=(lB s).set j v:=e;unfold oJ;rw[List.set_cons_zero,List.flatMap_cons,List.flatMap_cons,Nat.zero_mul,Nat.zero_add,List.set_append_left _ _ oo,e']
 | s::r,h,i+1,j,v,s',hi,hj,e=>by have h1:=yF (h s (List.mem_cons_self ..));have ih:=aNo (l:=r) (fun x hx=>h x (List.mem_cons_of_mem _ hx)) i j v s' (by simpa using hi) hj e;unfold oJ at ih ⊢;rw[List.set_cons_succ,List.flatMap_cons,List.flatMap_cons,ih,List.set_append_right _ _ oo,h1,show (i+1)*259+j-259=i*259+j by omega]
section
variable {pre:List Value} {l:List eJ} {room clock met miss:Int}
theorem tI(hp:pre.length=9)(hl:gF l)(h32:l.length=32):(bS pre l room clock met miss).length=8301:=by have:=tS hl;unfold bS;simp only[List.length_append,List.length_cons,List.length_nil];omega
theorem aEp(hp:pre.length=9)(hl:gF l){i j:Nat}{v:Value}{s':eJ}(hi:i<l.length)(hj:j<259)(e:lB s'=(lB (l.getD i default)).set j v):(bS pre l room clock met miss).set (9+i*259+j) v=bS pre (l.set i s') room clock met miss:=by have hs:=tS hl;unfold bS;rw[List.set_append_right _ _ oo,hp,show 9+i*259+j-9=i*259+j by omega,List.set_append_left _ _ oo,aNo hl i j v s' hi hj e]
theorem aIw(hp:pre.length=9)(hl:gF l){i:Nat}(hi:i<l.length)(t:Int):(bS pre l room clock met miss).set (9+i*259) (.int .i64 t)=bS pre (l.set i { l.getD i default with t:=t }) room clock met miss:=aEp hp hl (j:=0) hi oo rfl
theorem aRm(hp:pre.length=9)(hl:gF l){i:Nat}(hi:i<l.length)(t:Int):(bS pre l room clock met miss).set (9+i*259+1) (.int .i64 t)=bS pre (l.set i { l.getD i default with w:=t }) room clock met miss:=aEp hp hl (j:=1) hi oo rfl
theorem aIx(hp:pre.length=9)(hl:gF l){i:Nat}(hi:i<l.length)(t:Int):(bS pre l room clock met miss).set (9+i*259+258) (.int .i64 t)=bS pre (l.set i { l.getD i default with u:=t }) room clock met miss:=by have hm:(l.getD i default).z.length=256:=hl _ (by rw[List.getD_eq_getElem?_getD,List.getElem?_eq_getElem hi];exact List.getElem_mem ..);refine aEp hp hl (j:=258) hi oo ?_;generalize l.getD i default=s at *;unfold lB;rw[List.set_cons_succ,List.set_cons_succ,List.set_append_right _ _ (by rw[fW,hm];exact Nat.le_refl _),fW,hm];rfl
theorem gF.set{l:List eJ}(hl:gF l)(i:Nat){s:eJ}(h:s.z.length=256):gF (l.set i s):=fun x hx=>by
 rcases List.mem_or_eq_of_mem_set hx with h1|h1
 ·exact hl x h1
 ·rw[h1];exact h
theorem aRi(hp:pre.length=9)(hl:gF l)(h32:l.length=32)(x:Int):(bS pre l room clock met miss).set 8298 (.int .i64 x)=bS pre l room x met miss:=by have hs:=tS hl;unfold bS;rw[List.set_append_right _ _ oo,List.set_append_right _ _ oo,hp,hs,h32];rfl
theorem aRj(hp:pre.length=9)(hl:gF l)(h32:l.length=32)(x:Int):(bS pre l room clock met miss).set 8299 (.int .i64 x)=bS pre l room clock x miss:=by have hs:=tS hl;unfold bS;rw[List.set_append_right _ _ oo,List.set_append_right _ _ oo,hp,hs,h32];rfl
theorem aRk(hp:pre.length=9)(hl:gF l)(h32:l.length=32)(x:Int):(bS pre l room clock met miss).set 8300 (.int .i64 x)=bS pre l room clock met x:=by have hs:=tS hl;unfold bS;rw[List.set_append_right _ _ oo,List.set_append_right _ _ oo,hp,hs,h32];rfl
end
end Go.Proofs.YtbhchphfmhmabaaGreat
namespace Go.Proofs.YtbhchphfmhmabaaGreat
open Go.RowKit _root_.Go.Proofs.Tryz
section
variable {P:Program} {w0:World} {W:Nat→Prop} {H:List HE}
instance (t e m b q sz:Nat)(x:Operand)[hu:aN P t (.array m e)][hI:rO P e sz]:MS P w0 W H (.slice t x none none none) [.pointer (some ⟨b,q,none⟩)] (.slice (some ⟨b,q,none⟩) m m) True :=
 ⟨fun _ _ _ _ _ _ _ _ _ _ _ _ _ _ h1 h2 h3=>dW aE rfl h2 (fun a w ha _=>by have p1:=kP rfl h1;have g1:=hu.h;obtain⟨ii,g2,g3⟩:=hI.h;simp[execOp,ha.eval p1,Instr.sliceAt,Instr.sliceBounds,run_underlying g1,sizeOf,typeInfo,g2,Instr.sureAddr];intro _;simp[Addr.add]) h3⟩
end
theorem aYx{F:Fence}{P:Program}{n N:Nat}{ds:List Deferred}{w0:World}{W:Nat→Prop}{H:List HE}{σ:List (Nat×Value)}{d:Nat}{ty:TypeId}{pos:String}{aft:Array Edge}{gd:Option (Nat×Bool)}{K:Act→World→Prop}{Q:Exit→Act→World→Prop}[hF:aU F]{t e bs g o dl dc j tb:Nat}{z u:Value}{k:IntKind}{cs:List Value}{ys:List Int}{x y:Operand}{kk:HE→List HE}[aN P t (.slice e)][hI:bF P e 1 bs z]
  [hb:At g H tb cs kk] [hs:vR w0 W H e 1 u j (aD k ys)] (hv:vals σ [x,y]=some [.slice (some ⟨g,o,none⟩) dl dc,u]) (hc:0<j∧j≤dl∧o+j≤cs.length) (hdN:Nat.blt d N=true)
  (h:J N ds w0 W ((d,.int .i64 j)::σ) (kk (.blk g tb (cs.take o++aD k ys++cs.drop (o+j)))) K):OJ F n P N ds w0 W σ H ⟨some d,.call ⟨.builtin .copy,#[x,y],#[t,t]⟩,ty,pos,aft,gd⟩ K Q:=by
 obtain⟨R,h2,h3⟩:=hb.h;intro a w ha hw;obtain⟨p,q⟩:=dP hv;obtain⟨A',c',rfl,-,-,e2,e3⟩:=hs.h w hw;have hyl:ys.length=j:=by simpa using e2
 have hg:w.heap[g]? = some (.cells cs.toArray tb (0,0)):=hw.has h2;have hinf:(P.info? e).map (·.size)=some 1:=bF.size (z:=z) (bs:=bs);have hut:=aN.h (P:=P) (t:=t);obtain⟨b',off',rfl,hcell⟩:=e3 hc.1;have hrun:=run_copy_row P w t t ty e g o dl dc ⟨b',off',none⟩ j c' cs.toArray tb (aD k ys) hut hinf hg (by rw[fW,hyl];exact(Nat.min_eq_left hc.2.1).symm) (fun q v hq=>by rw[pL];exact hcell q v hq w hw) (by rw[fW,hyl];simpa using hc.2.2) (by intro v hv;obtain⟨x,-,rfl⟩:=List.mem_map.1 hv;rfl);rw[fW,hyl]at hrun;refine⟨fun f _=>hF.out.fn f,?_⟩;rw[Oper.semAt_plain F _ _ aE];simp only[execOp,resolve,invoke,builtin,Sem.run_bind,Sem.run_pure,Result.andThen_ok,List.map_toArray,List.map_cons,List.map_nil,ha.eval p,ha.eval q,hrun,Oper.uponIn_value];refine h _ _ (ha.put d _ (by simpa using hdN)) ?_;have hst:St w0 W (.blk g tb (cs.take o++aD k ys++cs.drop (o+j))::R) (w.setRow g (cs.take o++aD k ys++cs.drop (o+j)).toArray):=by refine hw.turn h2 ?_ rfl rfl rfl aE (fun b _ hk=>Go.setRow_other _ _ _ _ (fun e=>hk (by rw[e];rfl))) (.inl rfl);exact Go.setRow_heap w g _ _ tb _ hg
 exact hst.sub (h3 _)
theorem aVj{F:Fence}{P:Program}{n N:Nat}{ds:List Deferred}{w0:World}{W:Nat→Prop}{H:List HE}{σ:List (Nat×Value)}{ops:Array Oper}{rest:List Oper}{d:Nat}{ty:TypeId}{pos:String}{aft:Array Edge}{gd:Option (Nat×Bool)}{Q:Exit→Act→World→Prop}[aU F]{t e bs g o dl dc j tb:Nat}{z u:Value}{k:IntKind}{cs:List Value}{ys:List Int}{x y:Operand}{kk:HE→List HE}[aN P t (.slice e)][bF P e 1 bs z]
  (hw:bT ops σ ⟨some d,.call ⟨.builtin .copy,#[x,y],#[t,t]⟩,ty,pos,aft,gd⟩=some true) (hv:vals σ [x,y]=some [.slice (some ⟨g,o,none⟩) dl dc,u]) [hb:At g H tb cs kk] [hs:vR w0 W H e 1 u j (aD k ys)] (hc:0<j∧j≤dl∧o+j≤cs.length) (hdN:Nat.blt d N=true)
  (h:J N ds w0 W ((d,.int .i64 j)::σ) (kk (.blk g tb (cs.take o++aD k ys++cs.drop (o+j)))) (wpListIn F n P ops Q rest)) :
  J N ds w0 W σ H (wpListIn F n P ops Q (⟨some d,.call ⟨.builtin .copy,#[x,y],#[t,t]⟩,ty,pos,aft,gd⟩::rest)):=jZ hw (aYx (z:=z) (bs:=bs) hv hc hdN h)
instance:rO prog 95 1:=⟨Tryz.t95,by kernel_rfl,by kernel_rfl⟩
theorem aNn:∀{l:List eJ} (_:gF l) (i j:Nat) (vs:List Value) (s':eJ),i<l.length→j+vs.length≤259→(lB (l.getD i default)).take j++vs++(lB (l.getD i default)).drop (j+vs.length)=lB s'→(oJ l).take (i*259+j)++vs++(oJ l).drop (i*259+j+vs.length)=oJ (l.set i s')
 | [],_,i,j,vs,s',hi,_,_=>by simp at hi
 | s::r,h,0,j,vs,s',_,hj,e=>by
  have h1:=yF (h s (List.mem_cons_self ..));have e':(lB s).take j++vs++(lB s).drop (j+vs.length)=lB s':=e;unfold oJ;rw[List.set_cons_zero,List.flatMap_cons,List.flatMap_cons,Nat.zero_mul,Nat.zero_add,List.take_append_of_le_length oo,List.drop_append_of_le_length oo,← e',List.append_assoc,List.append_assoc,List.append_assoc]
 | s::r,h,i+1,j,vs,s',hi,hj,e=>by have h1:=yF (h s (List.mem_cons_self ..));have ih:=aNn (l:=r) (fun x hx=>h x (List.mem_cons_of_mem _ hx)) i j vs s' (by simpa using hi) hj e;unfold oJ at ih ⊢;rw[List.set_cons_succ,List.flatMap_cons,List.flatMap_cons,← ih,List.take_append,List.drop_append,List.take_of_length_le oo,List.drop_eq_nil_of_le oo,List.nil_append,h1,show (i+1)*259+j-259=i*259+j by omega,show (i+1)*259+j+vs.length-259=i*259+j+vs.length by omega,List.append_assoc,List.append_assoc,List.append_assoc]
section
variable {pre:List Value} {l:List eJ} {room clock met miss:Int}
theorem aRn(hp:pre.length=9)(hl:gF l){i:Nat}(hi:i<l.length){zs:List Int}(hz:zs.length≤256):(bS pre l room clock met miss).take (9+i*259+2)++aD .i16 zs++(bS pre l room clock met miss).drop (9+i*259+2+zs.length)=bS pre (l.set i { l.getD i default with z:=zs++(l.getD i default).z.drop zs.length }) room clock met miss:=by have hs:=tS hl;have hm:(l.getD i default).z.length=256:=hl _ (by rw[List.getD_eq_getElem?_getD,List.getElem?_eq_getElem hi];exact List.getElem_mem ..);have e:=aNn hl i 2 (aD .i16 zs) { l.getD i default with z:=zs++(l.getD i default).z.drop zs.length } hi (by rw[fW];omega) (by generalize l.getD i default=s at *;rw[fW];unfold lB;rw[show 2+zs.length=zs.length+1+1 by omega,List.take_succ_cons,List.take_succ_cons,List.take_zero,List.drop_succ_cons,List.drop_succ_cons,List.drop_append_of_le_length (by rw[fW];omega),aKp];simp[aD]);rw[fW]at e;unfold bS;rw[← e,List.take_append,List.take_of_length_le oo,hp,show 9+i*259+2-9=i*259+2 by omega,List.take_append_of_le_length oo,List.drop_append,List.drop_eq_nil_of_le oo,List.nil_append,hp,show 9+i*259+2+zs.length-9=i*259+2+zs.length by omega,List.drop_append_of_le_length oo];simp only[List.append_assoc]
end
abbrev eU(ys:List Int)(A:Option Addr)(c:Nat)(A1:Option Addr)(c1:Nat)(A2:Option Addr)(c2:Nat):List Value:=[.slice A ys.length c,.int .i64 (wY ys:Nat),.int .i64 (hY ys:Nat),.slice none 0 0,.int .i64 (mR ys:Nat),.int .i32 (jN (dN ys 10 4)),.int .i32 (jN (dN ys 14 4)),.slice A1 (dS ys (nY ys)).length c1,.slice A2 (dT ys (nY ys)).length c2]
def aPj(l:List eJ)(room k:Nat):Prop:=((l.getD k default).t<0∧∀j,j<k→0≤(l.getD j default).t)∨((∀j,j<room→0≤(l.getD j default).t)∧k=oX l room)
def aDz(ys:List Int)(l:List eJ)(room:Nat)(clock met miss:Int)(n k:Nat)(l':List eJ)(met' miss':Int):Prop :=
 ((l.getD k default).t=n∧(∀j,j<k→(l.getD j default).t≠n)∧l'=l.set k { l.getD k default with u:=clock+1 }∧met'=met+1∧miss'=miss) ∨
 ((∀j,j<room→(l.getD j default).t≠n)∧aPj l room k∧(∃zs,nH ys n zs∧l'=l.set k ⟨n,(dX (wY ys) (hY ys) n:Nat),zs++(l.getD k default).z.drop zs.length,clock+1⟩)∧met'=met∧miss'=miss+1)
theorem aCk{l:List eJ}{i:Nat}{s:eJ}(h:i<l.length):(l.set i s).getD i default=s:=by simp[List.getD_eq_getElem?_getD,h]
instance {pre:List Value}{l:List eJ}{room clock met miss:Int}{q:Nat}{v:Value}[h:dG pre q v]:dG (bS pre l room clock met miss) q v:=⟨by
 have hq:q<pre.length:=by
  rcases Nat.lt_or_ge q pre.length with h1|h1
  ·exact h1
  ·exact absurd h.h (by rw[List.getElem?_eq_none h1];simp)
 unfold bS;rw[List.getElem?_append_left hq];exact h.h⟩
attribute [local irreducible] OJ J bM Code.wpIn wpListIn Oper.wpIn bodyPost CallsIn aF
theorem aTz(g:Nat)(ys:List Int)(A A1 A2:Option Addr)(c c1 c2:Nat)(l:List eJ)(room tn:Nat)(clock met miss:Int)(w:World)(hown:aZ [.blk g 193 (bS (eU ys A c A1 c1 A2 c2) l room clock met miss),.row (.slice A ys.length c) 5 1 ys.length (aD .u8 ys),.row (.slice A1 (dS ys (nY ys)).length c1) 3 1 (dS ys (nY ys)).length (aD .i64 (dS ys (nY ys))),.row (.slice A2 (dT ys (nY ys)).length c2) 3 1 (dT ys (nY ys)).length (aD .i64 (dT ys (nY ys)))] w)
  (hl:gF l) (h32:l.length=32) (hr:1≤room∧room≤32) (hcl:(0≤clock∧clock≤1000000000000000000)∧(0≤met∧met≤1000000000000000000)∧(0≤miss∧miss≤1000000000000000000)) (hu:dL ys) (hm:ys.length<100000000) (hO:xH ys) (hn:tn<nY ys) (hg:∀i,i<nY ys→∃z,nH ys i z) :
  aF prog 267 [.pointer (some ⟨g,0,none⟩),.int .i64 tn] [.blk g 193 (bS (eU ys A c A1 c1 A2 c2) l room clock met miss),.row (.slice A ys.length c) 5 1 ys.length (aD .u8 ys),.row (.slice A1 (dS ys (nY ys)).length c1) 3 1 (dS ys (nY ys)).length (aD .i64 (dS ys (nY ys))),.row (.slice A2 (dT ys (nY ys)).length c2) 3 1 (dT ys (nY ys)).length (aD .i64 (dT ys (nY ys)))] w
   (fun v S'=>∃k l' met' miss',k<room∧v=.pointer (some ⟨g,9+k*259,none⟩)∧aDz ys l room clock met miss tn k l' met' miss'∧S'=[.blk g 193 (bS (eU ys A c A1 c1 A2 c2) l' room (clock+1) met' miss'),.row (.slice A ys.length c) 5 1 ys.length (aD .u8 ys),.row (.slice A1 (dS ys (nY ys)).length c1) 3 1 (dS ys (nY ys)).length (aD .i64 (dS ys (nY ys))),.row (.slice A2 (dT ys (nY ys)).length c2) 3 1 (dT ys (nY ys)).length (aD .i64 (dT ys (nY ys)))]):=by
 have hp:(eU ys A c A1 c1 A2 c2).length=9:=rfl;have i0:dG (bS (eU ys A c A1 c1 A2 c2) l room clock met miss) 8298 (.int .i64 clock):=⟨xN hp hl h32 1⟩;have i1:=fun cl=>(⟨xN hp hl h32 0⟩:dG (bS (eU ys A c A1 c1 A2 c2) l room cl met miss) 8297 (.int .i64 room));have i2:=fun cl=>(⟨xN hp hl h32 2⟩:dG (bS (eU ys A c A1 c1 A2 c2) l room cl met miss) 8299 (.int .i64 met));have i3:=fun cl=>(⟨xN hp hl h32 3⟩:dG (bS (eU ys A c A1 c1 A2 c2) l room cl met miss) 8300 (.int .i64 miss));have o0:kF (bS (eU ys A c A1 c1 A2 c2) l room clock met miss) 8298 (.int .i64 (clock+1)) (bS (eU ys A c A1 c1 A2 c2) l room (clock+1) met miss):=⟨aRi hp hl h32 _,by rw[tI hp hl h32];decide⟩;have j1:=i1 (clock+1);have ft:=fun i (hi:i<32)=>aIy (pre:=eU ys A c A1 c1 A2 c2) (l:=l) (room:=room) (clock:=clock+1) (met:=met) (miss:=miss) hp hl (i:=i) oo;refine aJ func267 rfl ntmps267 rfl hown (fun n=>?_);simp only[aG];refine aB;refine cG (X:=Nat) (fun i=>i≤room∧∀j,j<i→(l.getD j default).t≠tn) (fun i=>[(0,.pointer (some ⟨g,0,none⟩)),(1,.int .i64 tn),(20,.int .i64 room),(21,.int .i64 i)])
  (fun _=>[.blk g 193 (bS (eU ys A c A1 c1 A2 c2) l room (clock+1) met miss),.row (.slice A ys.length c) 5 1 ys.length (aD .u8 ys),.row (.slice A1 (dS ys (nY ys)).length c1) 3 1 (dS ys (nY ys)).length (aD .i64 (dS ys (nY ys))),.row (.slice A2 (dT ys (nY ys)).length c2) 3 1 (dT ys (nY ys)).length (aD .i64 (dT ys (nY ys)))]) (fun i=>room-i) 0 ⟨oo,fun j hj=>by omega⟩ ⟨rfl,rfl,rfl,rfl,trivial⟩ (aA.refl _) ?_
 rintro i ⟨hi,hj⟩;rcases Nat.lt_or_ge i room with h|h
 ·have g1:dG (bS (eU ys A c A1 c1 A2 c2) l room (clock+1) met miss) (9+i*259) (.int .i64 (l.getD i default).t):=⟨ft i oo⟩;have j2:=i2 (clock+1);have o1:kF (bS (eU ys A c A1 c1 A2 c2) l room (clock+1) met miss) 8299 (.int .i64 (met+1)) (bS (eU ys A c A1 c1 A2 c2) l room (clock+1) (met+1) miss):=⟨aRj hp hl h32 _,by rw[tI hp hl h32];decide⟩;have j3:dG (bS (eU ys A c A1 c1 A2 c2) l room (clock+1) (met+1) miss) 8298 (.int .i64 (clock+1)):=⟨xN hp hl h32 1⟩;have o2:kF (bS (eU ys A c A1 c1 A2 c2) l room (clock+1) (met+1) miss) (9+i*259+258) (.int .i64 (clock+1)) (bS (eU ys A c A1 c1 A2 c2) (l.set i { l.getD i default with u:=clock+1 }) room (clock+1) (met+1) miss):=⟨aIx hp hl oo _,by rw[tI hp hl h32];omega⟩;refine aB
  ·exact aM rfl rfl (aA.refl _) ⟨i,_,_,_,h,rfl,.inl ⟨oa,hj,rfl,rfl,rfl⟩,rfl⟩
  ·refine aR (i+1) ⟨oo,fun j hjj=>?_⟩ (by show room-(i+1)<room-i;omega) ⟨rfl,rfl,rfl,by simp[aI],trivial⟩ (aA.refl _);rcases Nat.lt_or_ge j i with h1|h1
   ·exact hj j h1
   ·rw[show j=i by omega];assumption
 ·obtain rfl:i=room:=oo;have j2:=i3 (clock+1);have o1:kF (bS (eU ys A c A1 c1 A2 c2) l i (clock+1) met miss) 8300 (.int .i64 (miss+1)) (bS (eU ys A c A1 c1 A2 c2) l i (clock+1) met (miss+1)):=⟨aRk hp hl h32 _,by rw[tI hp hl h32];decide⟩;refine aB;refine lf rfl rfl rfl (fun w hw ho=>aX3 g (eU ys A c A1 c1 A2 c2) l i (clock+1) met (miss+1) w ho hp hl h32 hr) ?_;rintro v S' ⟨k,hk,rfl,hold,rfl⟩;have p0:dG (bS (eU ys A c A1 c1 A2 c2) l i (clock+1) met (miss+1)) 0 (.slice A ys.length c):=⟨rfl⟩;have p1:lL (bS (eU ys A c A1 c1 A2 c2) l i (clock+1) met (miss+1)) 1 8 [.int .i64 (wY ys:Nat),.int .i64 (hY ys:Nat),.slice none 0 0,.int .i64 (mR ys:Nat),.int .i32 (jN (dN ys 10 4)),.int .i32 (jN (dN ys 14 4)),.slice A1 (dS ys (nY ys)).length c1,.slice A2 (dT ys (nY ys)).length c2]:=⟨rfl,rfl⟩;refine aB;refine aAc _ (0::1::2::3::4::5::6::7::8::9::10::11::12::13::14::[]) (aA.refl _) bD od bD bD bD ?_;intro _;refine gO;refine lf rfl rfl rfl (S:=[]) (fun w hw ho=>aJn A c ys A1 A2 c1 c2 tn w ⟨Ro.row hw (aC.nil _) (by refine cF)⟩ ⟨Ro.row hw (aC.nil _) (by refine cF)⟩ ⟨Ro.row hw (aC.nil _) (by refine cF)⟩ hu hm hO hn) ?_;rintro v S' ⟨zs,Az,cz,code,T,rfl,rfl,hz⟩;refine jP (H':=.row (.slice Az zs.length cz) 95 1 zs.length (aD .i16 zs)::_) (.cons (.here _ _) (aA.appR T _)) ?_;obtain⟨rfl,hok⟩:code=0∧nH ys tn zs:=by
   rcases hz with hz | ⟨-,-,hz⟩
   ·exact hz
   ·obtain⟨z,hz2⟩:=hg tn hn;exact absurd hz2 (hz z)
  have p2:dG (bS (eU ys A c A1 c1 A2 c2) l i (clock+1) met (miss+1)) 8298 (.int .i64 (clock+1)):=⟨xN hp hl h32 1⟩;obtain⟨sk,hsk⟩:∃s,l.getD k default=s:=⟨_,rfl⟩;have hmk:sk.z.length=256:=by rw[← hsk];exact hl _ (by rw[List.getD_eq_getElem?_getD,List.getElem?_eq_getElem oo];exact List.getElem_mem ..)
  have hlk:∀t w u:Int,gF (l.set k ⟨t,w,sk.z,u⟩):=fun t w u=>hl.set k hmk;have h3k:∀s:eJ,(l.set k s).length=32:=fun s=>by rw[List.length_set];exact h32
  have hgk:=fun (s:eJ)=>aCk (l:=l) (i:=k) (s:=s) oo;have o3:kF (bS (eU ys A c A1 c1 A2 c2) l i (clock+1) met (miss+1)) (9+k*259) (.int .i64 tn) (bS (eU ys A c A1 c1 A2 c2) (l.set k ⟨tn,sk.w,sk.z,sk.u⟩) i (clock+1) met (miss+1)):=⟨by rw[aIw hp hl oo,hsk],by rw[tI hp hl h32];omega⟩;have o4:kF (bS (eU ys A c A1 c1 A2 c2) (l.set k ⟨tn,sk.w,sk.z,sk.u⟩) i (clock+1) met (miss+1)) (9+k*259+258) (.int .i64 (clock+1)) (bS (eU ys A c A1 c1 A2 c2) (l.set k ⟨tn,sk.w,sk.z,clock+1⟩) i (clock+1) met (miss+1)):=⟨by rw[aIx hp (hlk _ _ _) (by rw[h3k];omega),hgk,List.set_set],by rw[tI hp (hlk _ _ _) (h3k _)];omega⟩;have o5:kF (bS (eU ys A c A1 c1 A2 c2) (l.set k ⟨tn,sk.w,sk.z,clock+1⟩) i (clock+1) met (miss+1)) (9+k*259+1) (.int .i64 ((cU (wY ys) (hY ys) (tX (wY ys) tn) (tY (wY ys) tn)).2.2.1:Nat)) (bS (eU ys A c A1 c1 A2 c2) (l.set k ⟨tn,(dX (wY ys) (hY ys) tn:Nat),sk.z,clock+1⟩) i (clock+1) met (miss+1)):=⟨by rw[aRm hp (hlk _ _ _) (by rw[h3k];omega),hgk,List.set_set];rfl,by rw[tI hp (hlk _ _ _) (h3k _)];omega⟩;refine gO;refine aB;have hrg:=hO.rng;unfold qB at hrg;have hpg:=aD5 (wY ys) (nT (wY ys) (hY ys)) tn hn;have hpl:=zK (wY ys) (nT (wY ys) (hY ys));have hn2:tn<nT (wY ys) (hY ys):=hn;have hbx:=aB6 (W:=wY ys) (H:=hY ys) hn;obtain⟨hX,hY'⟩:=aDo (W:=wY ys) (H:=hY ys) (i:=tn) oo hn;refine aBu [38] 39 (0::1::2::3::4::5::6::7::8::9::10::11::12::13::14::15::16::17::18::19::20::21::22::23::24::25::26::27::28::29::30::31::32::33::34::35::36::37::38::[]) ?_;intro _;refine gO;refine lf rfl rfl rfl (S:=[]) (fun w hw ho=>aB0 (wY ys) (hY ys) w oo) ?_;rintro v S' ⟨Ap,cp,rfl,rfl⟩;refine gO;simp only[hpg];refine bU rfl rfl rfl (fun w _=>aAa (wY ys) (hY ys) (tX (wY ys) tn) (tY (wY ys) tn) w hX hY' oo) ?_;refine gO;refine aB;have hzl:0<zs.length∧zs.length≤256:=by rw[hok.1];exact⟨Nat.mul_pos oo oo,Nat.mul_le_mul (show _≤16 by omega) (show _≤16 by omega)⟩
  refine aVj rfl rfl ⟨hzl.1,hzl.2,?_⟩ rfl ?_
  ·rw[tI hp (hlk _ _ _) (h3k _)];omega
  rw[aRn hp (hlk _ _ _) (by rw[h3k];omega) hzl.2,hgk,List.set_set];refine aB;subst hsk;refine aM rfl rfl ?_ ⟨k,_,_,_,hk,rfl,.inr ⟨hj,hold,⟨zs,hok,rfl⟩,rfl,rfl⟩,rfl⟩;exact aA.au
theorem aJo{W H:Nat}{f:List Int}(hf:f.length=W*H){x y:Nat}(hx:x<W)(hy:y<H):y/16*bC W+x/16<nT W H∧(y%16+1)*dX W H (y/16*bC W+x/16)≤(jM W H f (y/16*bC W+x/16)).length∧x%16<dX W H (y/16*bC W+x/16)∧(jM W H f (y/16*bC W+x/16)).getD (y%16*dX W H (y/16*bC W+x/16)+x%16) 0=f.getD (y*W+x) 0:=by
 have hi:x/16<bC W:=by unfold bC;omega
 have hk:y/16<bC H:=by unfold bC;omega
 have hn:y/16*bC W+x/16<nT W H:=by have h5:(y/16+1)*bC W≤bC H*bC W:=Nat.mul_le_mul_right _ hk;rw[Nat.add_mul,Nat.one_mul,Nat.mul_comm (bC H)]at h5;unfold nT;omega
 have hX:=(tXY (W:=W) (y:=y/16) hi).1;have hY:=(tXY (W:=W) (y:=y/16) hi).2;have hb:=aBs (W:=W) (H:=H) hi hk;have ew:dX W H (y/16*bC W+x/16)=min 16 (W-16*(x/16)):=by unfold dX;rw[hX,hY,hb]
 have eh:nX W H (y/16*bC W+x/16)=min 16 (H-16*(y/16)):=by unfold nX;rw[hX,hY,hb]
 have hl:=aC9 (W:=W) (H:=H) (i:=y/16*bC W+x/16) hf;have hr:y%16<nX W H (y/16*bC W+x/16):=by rw[eh];omega
 refine⟨hn,?_,by rw[ew];omega,?_⟩
 ·rw[hl,Nat.mul_comm (dX ..)];exact Nat.mul_le_mul_right _ hr
 have hbx:=vV W H (x/16:Nat) (y/16:Nat);rw[hb]at hbx;simp only at hbx;have hp:=aEw (r:=y%16) hf hbx.1 hbx.2.1 oo _ (by omega:y%16<min 16 (H-16*(y/16))) (Nat.le_refl _);have ec:jM W H f (y/16*bC W+x/16)=lF f W (16*(x/16)) (16*(y/16)) (min 16 (W-16*(x/16))) (min 16 (H-16*(y/16))):=by unfold jM qS;rw[hX,hY,hb]
 rw[ec,ew];have hxm:x%16<min 16 (W-16*(x/16)):=oo;have e1:=congrArg (fun l=>l.getD (x%16) 0) hp;simp only[List.getD_eq_getElem?_getD,List.getElem?_take_of_lt hxm,List.getElem?_drop]at e1;rw[List.getD_eq_getElem?_getD,e1,yD,List.getElem?_take_of_lt hxm,List.getElem?_drop,show 16*(y/16)+y%16=y by omega,show y*W+16*(x/16)+x%16=y*W+x by omega,List.getD_eq_getElem?_getD]
theorem aTv{l:List Int}{m i:Nat}(h:i<m):(l.take m).getD i 0=l.getD i 0:=by rw[List.getD_eq_getElem?_getD,List.getD_eq_getElem?_getD,List.getElem?_take_of_lt h]
structure eH where
 g:Nat
 ys:List Int
 A:Option Addr
 c:Nat
 A1:Option Addr
 c1:Nat
 A2:Option Addr
 c2:Nat
 room:Nat
structure dK where
 l:List eJ
 clock:Int
 met:Int
 miss:Int
@[reducible] def eH.H(K:eH)(s:dK):List HE:=[.blk K.g 193 (bS (eU K.ys K.A K.c K.A1 K.c1 K.A2 K.c2) s.l K.room s.clock s.met s.miss),.row (.slice K.A K.ys.length K.c) 5 1 K.ys.length (aD .u8 K.ys),.row (.slice K.A1 (dS K.ys (nY K.ys)).length K.c1) 3 1 (dS K.ys (nY K.ys)).length (aD .i64 (dS K.ys (nY K.ys))),.row (.slice K.A2 (dT K.ys (nY K.ys)).length K.c2) 3 1 (dT K.ys (nY K.ys)).length (aD .i64 (dT K.ys (nY K.ys)))]
@[reducible] def eH.HC(K:eH)(s:dK)(T:List HE):List HE:=.blk K.g 193 (bS (eU K.ys K.A K.c K.A1 K.c1 K.A2 K.c2) s.l K.room s.clock s.met s.miss)::.row (.slice K.A K.ys.length K.c) 5 1 K.ys.length (aD .u8 K.ys)::.row (.slice K.A1 (dS K.ys (nY K.ys)).length K.c1) 3 1 (dS K.ys (nY K.ys)).length (aD .i64 (dS K.ys (nY K.ys)))::.row (.slice K.A2 (dT K.ys (nY K.ys)).length K.c2) 3 1 (dT K.ys (nY K.ys)).length (aD .i64 (dT K.ys (nY K.ys)))::T
def aE8(ys f:List Int)(n:Nat)(s:eJ):Prop:=s.t=n∧s.w=(dX (wY ys) (hY ys) n:Nat)∧s.z.take (jM (wY ys) (hY ys) f n).length=jM (wY ys) (hY ys) f n
def aI4(ys f:List Int)(s:eJ):Prop:=0≤s.t→∃n,n<nY ys∧aE8 ys f n s
structure jS(ys f:List Int)(room:Nat):Prop where
 u8:dL ys
 len:ys.length<100000000
 op:xH ys
 good:yP ys f
 room:1≤room∧room≤32
structure cO(ys f:List Int)(room:Nat)(s:dK)(b:Int):Prop where
 len:s.l.length=32
 slts:gF s.l
 sl:∀k,k<room→aI4 ys f (s.l.getD k default)
 clock:0≤s.clock∧s.clock≤b
 met:0≤s.met∧s.met≤b
 miss:0≤s.miss∧s.miss≤b
theorem cO.mono{ys f:List Int}{room:Nat}{s:dK}{b c:Int}(h:cO ys f room s b)(hb:b≤c):cO ys f room s c:=⟨h.len,h.slts,h.sl,⟨h.clock.1,by have:=h.clock.2;omega⟩,⟨h.met.1,by have:=h.met.2;omega⟩,⟨h.miss.1,by have:=h.miss.2;omega⟩⟩
theorem aKc{ys f:List Int}{room n k:Nat}{s s':dK}{b:Int}(hF:jS ys f room)(h:cO ys f room s b)(hn:n<nY ys)(hk:k<room)(hg:aDz ys s.l room s.clock s.met s.miss n k s'.l s'.met s'.miss)(hc:s'.clock=s.clock+1):cO ys f room s' (b+1)∧aE8 ys f n (s'.l.getD k default):=by
 have hk32:k<s.l.length:=by have:=h.len;have:=hF.room;omega
 obtain⟨c1,c2⟩:=h.clock;obtain⟨c3,c4⟩:=h.met;obtain⟨c5,c6⟩:=h.miss;have key:∀sl:eJ,sl.z.length=256→aI4 ys f sl→s'.l=s.l.set k sl→(s'.met=s.met+1∧s'.miss=s.miss∨s'.met=s.met∧s'.miss=s.miss+1)→cO ys f room s' (b+1)∧s'.l.getD k default=sl:=by
  intro sl hz hsl e hm;refine⟨⟨by rw[e,List.length_set,h.len],by rw[e];exact h.slts.set k hz,fun j hj=>?_,oo,oo,oo⟩,by rw[e,aCk hk32]⟩;rw[e];by_cases hjk:j=k
  ·subst hjk;rw[aCk hk32];exact hsl
  ·have:(s.l.set k sl).getD j default=s.l.getD j default:=by rw[List.getD_eq_getElem?_getD,List.getD_eq_getElem?_getD,List.getElem?_set_ne (fun e=>hjk e.symm)]
   rw[this];exact h.sl j hj
 have hz0:(s.l.getD k default).z.length=256:=h.slts _ (by rw[List.getD_eq_getElem?_getD,List.getElem?_eq_getElem hk32];exact List.getElem_mem ..);rcases hg with⟨h1,-,h3,h4,h5⟩ | ⟨-,-,⟨zs,h1,h2⟩,h4,h5⟩
 ·obtain⟨m,hm,hsl⟩:=h.sl k hk oo;have hmn:m=n:=by have:=hsl.1;omega
  subst hmn;have:=key { s.l.getD k default with u:=s.clock+1 } hz0 (fun _=>⟨m,hm,hsl⟩) h3 (.inl ⟨h4,h5⟩);exact⟨this.1,by rw[this.2];exact hsl⟩
 ·obtain rfl:=nH.one hn h1 (hF.good.til hn);have hl:(jM (wY ys) (hY ys) f n).length≤256:=aC8 hF.good.2.1;have his:aE8 ys f n ⟨n,(dX (wY ys) (hY ys) n:Nat),jM (wY ys) (hY ys) f n++(s.l.getD k default).z.drop (jM (wY ys) (hY ys) f n).length,s.clock+1⟩:=⟨rfl,rfl,aE⟩;have:=key _ (by simp only[List.length_append,List.length_drop];omega) (fun _=>⟨n,hn,his⟩) h2 (.inr ⟨h4,h5⟩);exact⟨this.1,by rw[this.2];exact his⟩
def aE1(ys:List Int)(room:Nat)(s:dK)(x y:Int)(s':dK):Prop :=
 ((x<0∨y<0∨(wY ys:Int)≤x∨(hY ys:Int)≤y)∧s'=s)∨(¬(x<0∨y<0∨(wY ys:Int)≤x∨(hY ys:Int)≤y)∧∃k,k<room∧aDz ys s.l room s.clock s.met s.miss (y.toNat/16*bC (wY ys)+x.toNat/16) k s'.l s'.met s'.miss∧s'.clock=s.clock+1)
theorem aE1.ok{ys f:List Int}{room:Nat}{s s':dK}{x y b:Int}(hg:aE1 ys room s x y s')(hF:jS ys f room)(h:cO ys f room s b):cO ys f room s' (b+1):=by
 rcases hg with⟨-,rfl⟩ | ⟨ho,k,hk,h1,h2⟩
 ·exact h.mono oo
 ·exact(aKc hF h (aJo (f:=f) hF.good.2.1 oo oo).1 hk h1 h2).1
theorem aKl(K:eH)(s:dK)(f:List Int)(x y b:Int)(w:World)(hown:aZ (K.H s) w)(hF:jS K.ys f K.room)(h:cO K.ys f K.room s b)(hb:b≤1000000000000000000):
  aF prog 242 [.pointer (some ⟨K.g,0,none⟩),.int .i64 x,.int .i64 y] (K.H s) w (fun v S'=>∃s',v=.tuple #[.int .i16 (mF (wY K.ys) (hY K.ys) f x y).1,.int .i64 (mF (wY K.ys) (hY K.ys) f x y).2]∧aE1 K.ys K.room s x y s'∧S'=K.H s'):=by
 obtain⟨g,ys,A,c,A1,c1,A2,c2,room⟩:=K;obtain⟨l,clock,met,miss⟩:=s;have hrg:=hF.op.rng;unfold qB at hrg;have hrm:=hF.room;have hp:(eU ys A c A1 c1 A2 c2).length=9:=rfl;obtain⟨e1,-,-,e3,e4,e5⟩:=id h;simp only at e1 e3 e4 e5 hrm hrg ⊢ hF h;have q0:lL (bS (eU ys A c A1 c1 A2 c2) l room clock met miss) 1 3 [.int .i64 (wY ys:Nat),.int .i64 (hY ys:Nat),.slice none 0 0]:=⟨rfl,rfl⟩;refine aJ func242 rfl ntmps242 rfl hown (fun n=>?_);simp only[aG];by_cases ho:x<0∨y<0∨(wY ys:Int)≤x∨(hY ys:Int)≤y
 ·have e:mF (wY ys) (hY ys) f x y=(0,9):=if_pos ho;rw[e];refine aB;all_goals first
   | exact cY rfl rfl rfl aA.au ⟨_,rfl,.inl ⟨ho,rfl⟩,rfl⟩
   | (exfalso;omega)
 obtain⟨X,rfl⟩:∃X:Nat,x=X:=⟨x.toNat,oo⟩;obtain⟨Y,rfl⟩:∃Y:Nat,y=Y:=⟨y.toNat,oo⟩;have hXY:X<wY ys∧Y<hY ys:=oo;obtain⟨hn,hc1,hc2,hc3⟩:=aJo hF.good.2.1 hXY.1 hXY.2;have hnt:=wM (W:=wY ys) (H:=hY ys) oo;have hcm:(Y:Int)/16*((bC (wY ys):Nat):Int)=((Y/16*bC (wY ys):Nat):Int):=by push_cast;rfl
 refine aB;refine bU (v:=.int .i64 (bC (wY ys):Nat)) rfl rfl rfl (fun w _=>xO (wY ys) w oo) ?_;refine aB;refine eY 44 _ rfl (congrArg (Value.int .i64) (show (Y:Int)/16*(bC (wY ys):Nat)+(X:Int)/16=((Y/16*bC (wY ys)+X/16:Nat):Int) by push_cast;rfl)) ?_;refine lf rfl rfl rfl (S:=eH.H ⟨g,ys,A,c,A1,c1,A2,c2,room⟩ ⟨l,clock,met,miss⟩) (fun w hw ho=>aTz g ys A A1 A2 c c1 c2 l room (Y/16*bC (wY ys)+X/16) clock met miss w ho h.slts e1 hrm oo hF.u8 hF.len hF.op hn (fun i hi=>⟨_,hF.good.til hi⟩)) ?_;rintro v S' ⟨k,l',met',miss',hk,rfl,hg,rfl⟩;obtain⟨g1,g2⟩:=aKc (s':=⟨l',clock+1,met',miss'⟩) hF h hn hk hg rfl;have hkl:k<l'.length:=by have:l'.length=32:=g1.len;omega
 have gw:(l'.getD k default).w=_:=g2.2.1;have gz:(l'.getD k default).z.take _=_:=g2.2.2;have iw:dG (bS (eU ys A c A1 c1 A2 c2) l' room (clock+1) met' miss') (9+k*259+1) (.int .i64 (dX (wY ys) (hY ys) (Y/16*bC (wY ys)+X/16):Nat)):=⟨by rw[aRp hp g1.slts hkl,gw]⟩;have hzl:=aC8 (W:=wY ys) (H:=hY ys) (z:=f) (i:=Y/16*bC (wY ys)+X/16) hF.good.2.1;rw[Nat.add_mul,Nat.one_mul]at hc1;have iz:dG (bS (eU ys A c A1 c1 A2 c2) l' room (clock+1) met' miss') (9+k*259+2+(Y%16*dX (wY ys) (hY ys) (Y/16*bC (wY ys)+X/16)+X%16)) (.int .i16 (f.getD (Y*wY ys+X) 0)):=⟨by rw[Nat.add_assoc (9+k*259) 2,aRq hp g1.slts hkl oo,← hc3,← gz,aTv oo]⟩;have hcz:(Y:Int)%16*((dX (wY ys) (hY ys) (Y/16*bC (wY ys)+X/16):Nat):Int)=((Y%16*dX (wY ys) (hY ys) (Y/16*bC (wY ys)+X/16):Nat):Int):=by push_cast;rfl
 refine aB;refine kG (0::1::2::3::4::5::6::7::8::9::10::11::12::13::14::15::[]) ?_;intro _;refine gO;have e:mF (wY ys) (hY ys) f X Y=if f.getD (Y*wY ys+X) 0 = -32768 then (0,8)else (f.getD (Y*wY ys+X) 0,0):=by
  have e0:((Y:Int)*(wY ys:Int)+(X:Int)).toNat=Y*wY ys+X:=by rw[← Int.natCast_mul,← Int.natCast_add,Int.toNat_natCast]
  unfold mF;rw[if_neg ho,e0]
 rw[e];refine eY 56 _ rfl (congrArg (Value.int .i64) (show (Y:Int)%16*((dX (wY ys) (hY ys) (Y/16*bC (wY ys)+X/16):Nat):Int)+(X:Int)%16=((Y%16*dX (wY ys) (hY ys) (Y/16*bC (wY ys)+X/16)+X%16:Nat):Int) by push_cast;rfl)) ?_;refine gO;all_goals first
  | exact cY rfl rfl rfl aA.au ⟨⟨l',clock+1,met',miss'⟩,by rw[if_pos oa],.inr ⟨ho,k,hk,hg,rfl⟩,rfl⟩
  | exact cY rfl rfl rfl aA.au ⟨⟨l',clock+1,met',miss'⟩,by rw[if_neg oa],.inr ⟨ho,k,hk,hg,rfl⟩,rfl⟩
def vM:List eJ:=List.replicate 32 ⟨0,0,List.replicate 256 0,0⟩
@[reducible] def aBe:List Value:=[.int .i64 0,.int .i64 0,.slice none 0 0,.int .i64 0,.int .i32 0,.int .i32 0,.slice none 0 0,.slice none 0 0]
def zC:Value:=.agg (bS (.slice none 0 0::aBe) vM 0 0 0 0).toArray
set_option maxRecDepth 100000 in
instance:bF prog 193 8301 17312 zC:=⟨Tryz.t193,by kernel_rfl,by kernel_rfl,rfl,rfl⟩
instance:ZC zC (bS (.slice none 0 0::aBe) vM 0 0 0 0):=⟨rfl⟩
set_option maxRecDepth 10000 in
theorem aBd:gF vM∧vM.length=32:=⟨fun s hs=>by rw[List.eq_of_mem_replicate hs];exact List.length_replicate ..,List.length_replicate ..⟩
instance {pre vs o:List Value}{l:List eJ}{room clock met miss:Int}{q:Nat}[h:jD pre q vs o]:jD (bS pre l room clock met miss) q vs (bS o l room clock met miss):=⟨by obtain⟨h1,h2⟩:=h.h;unfold bS;refine⟨?_,by rw[List.length_append];omega⟩;rw[List.take_append_of_le_length oo,List.drop_append_of_le_length oo,← List.append_assoc,h1]⟩
theorem aTu{l:List eJ}{i:Nat}(h:i<l.length):l.getD i default∈l:=by rw[List.getD_eq_getElem?_getD,List.getElem?_eq_getElem h];exact List.getElem_mem ..
theorem aRl{pre:List Value}{l:List eJ}{room clock met miss:Int}(hp:pre.length=9)(hl:gF l)(h32:l.length=32)(x:Int):(bS pre l room clock met miss).set 8297 (.int .i64 x)=bS pre l x clock met miss:=by have hs:=tS hl;unfold bS;rw[List.set_append_right _ _ oo,List.set_append_right _ _ oo,hp,hs,h32];rfl
instance (v:Value)(x:Int):jD (bS (v::aBe) vM 0 0 0 0) 8297 [.int .i64 x] (bS (v::aBe) vM x 0 0 0):=by have:=aXn (cs:=bS (v::aBe) vM 0 0 0 0) (q:=8297) (.int .i64 x) (by rw[tI rfl aBd.1 aBd.2];decide);rw[aRl rfl aBd.1 aBd.2]at this;exact this
theorem aRx(K:eH)(s:dK)(w:World)(hown:aZ (K.H s) w):
  aF prog 266 [.pointer (some ⟨K.g,0,none⟩)] (K.H s) w (fun v S'=>v=.agg #[.int .i64 (wY K.ys:Nat),.int .i64 (hY K.ys:Nat),.slice none 0 0,.int .i64 (mR K.ys:Nat),.int .i32 (jN (dN K.ys 10 4)),.int .i32 (jN (dN K.ys 14 4))]∧S'=K.H s):=by
 obtain⟨g,ys,A,c,A1,c1,A2,c2,room⟩:=K;obtain⟨l,clock,met,miss⟩:=s;simp only;have q0:lL (bS (eU ys A c A1 c1 A2 c2) l room clock met miss) 1 6 [.int .i64 (wY ys:Nat),.int .i64 (hY ys:Nat),.slice none 0 0,.int .i64 (mR ys:Nat),.int .i32 (jN (dN ys 10 4)),.int .i32 (jN (dN ys 14 4))]:=⟨rfl,rfl⟩;refine aJ func266 rfl ntmps266 rfl hown (fun n=>?_);simp only[aG];refine aB;refine eC (S':=eH.H ⟨g,ys,A,c,A1,c1,A2,c2,room⟩ ⟨l,clock,met,miss⟩) aA.au ?_;refine cZ;exact⟨rfl,rfl⟩
def mZ:Nat→List eJ
 | 0=>vM
 | i+1=>(mZ i).set i { (mZ i).getD i default with t:=-1 }
theorem aAx:∀i,gF (mZ i)∧(mZ i).length=32
 | 0=>aBd
 | i+1=>by
  obtain⟨h1,h2⟩:=aAx i;refine⟨?_,by rw[mZ,List.length_set,h2]⟩;rw[mZ];rcases Nat.lt_or_ge i 32 with h|h
  ·exact h1.set i (h1 ((mZ i).getD i default) (aTu oo))
  ·rw[List.set_eq_of_length_le oo];exact h1
theorem aLu:∀i,i≤32→∀k,k<i→((mZ i).getD k default).t = -1
 | 0,_,k,h=>by omega
 | i+1,hi,k,h=>by
  have h2:=(aAx i).2;rw[mZ];by_cases e:k=i
  ·subst e;rw[aCk oo]
  ·have:((mZ i).set i { (mZ i).getD i default with t:=-1 }).getD k default=(mZ i).getD k default:=by rw[List.getD_eq_getElem?_getD,List.getElem?_set_ne (fun x=>e x.symm),List.getD_eq_getElem?_getD]
   rw[this];exact aLu i oo k oo
def xZ(room:Nat):dK:=⟨mZ room,0,0,0⟩
theorem aWq{ys f:List Int}{room:Nat}(hr:room≤32):cO ys f room (xZ room) 0 :=
 ⟨(aAx room).2,(aAx room).1,fun k hk h=>by rw[show ((xZ room).l.getD k default).t = -1 from aLu room hr k hk]at h;omega,⟨Int.le_refl _,Int.le_refl _⟩,⟨Int.le_refl _,Int.le_refl _⟩,⟨Int.le_refl _,Int.le_refl _⟩⟩
def aPh(ys:List Int)(room:Int)(v:Value)(S':List HE):Prop :=
 (∃code:Int,code≠0∧v=.tuple #[.pointer none,.int .i64 code]∧S'=[]∧(((room<4∨32<room)∧code=12)∨(¬(room<4∨32<room)∧rJ ys code))) ∨
 (¬(room<4∨32<room)∧rJ ys 0∧∃K:eH,K.ys=ys∧(K.room:Int)=room∧v=.tuple #[.pointer (some ⟨K.g,0,none⟩),.int .i64 0]∧S'=K.H (xZ K.room))
theorem aWr(A:Option Addr)(c:Nat)(ys:List Int)(room:Int)(w:World)(hr:bP w (bB []) A ys.length c 1 (aD .u8 ys))(hu:dL ys)(hm:ys.length<100000000)(hrm:bG .i64 room):
  aF prog 61 [.slice A ys.length c,.int .i64 room] [] w (aPh ys room):=by
 refine aJ func61 rfl ntmps61 rfl ⟨aE,.nil⟩ (fun n=>?_);simp only[aG];by_cases ho:room<4∨32<room
 ·refine aB;all_goals first
   | exact cY rfl rfl rfl (.nil _) (.inl ⟨12,od,rfl,rfl,.inl ⟨ho,rfl⟩⟩)
   | (exfalso;omega)
 obtain⟨R,rfl⟩:∃R:Nat,room=R:=⟨room.toNat,oo⟩;refine aB;refine lf rfl rfl rfl (S:=[]) (fun w hw ho=>aTx A c ys w ⟨hr.h.go hw (aC.nil _)⟩ hu hm) ?_;rintro v S' hget;rcases hget with⟨code,hne,hgc2,rfl,rfl⟩ | ⟨hgc,g,Ag,cg,hgl,hgg,rfl,rfl⟩
 ·refine aB;exact cY rfl rfl rfl (.nil _) (.inl ⟨code,hne,rfl,rfl,.inr ⟨ho,hgc2⟩⟩)
 refine aB;rename_i b0 b1 A' c' gC;refine lf rfl rfl rfl (S:=[]) (fun w hw ho=>aM7 A' c' ys w ⟨Ro.row hw (aC.nil _) (by refine cF)⟩ hu hm) ?_;have hoc:lI ys=0:=by
  rcases hgc with⟨h,-⟩ | ⟨h,-⟩ | ⟨h,-⟩
  ·exact absurd rfl h
  ·exact h
  ·exact h
 rintro v S' (⟨-,A1,c1,A2,c2,rfl,rfl⟩ | ⟨h,-⟩);case inr=>exact absurd hoc h
 refine aB;refine cG (X:=Nat) (fun i=>i≤R) (fun i=>[(8,.pointer (some ⟨gC,0,none⟩)),(41,.int .i64 R),(42,.int .i64 i)]) (fun i=>eH.H ⟨gC,ys,A',c',A1,c1,A2,c2,R⟩ ⟨mZ i,0,0,0⟩) (fun i=>R-i) 0 oo ⟨rfl,rfl,rfl,trivial⟩ (show aA (eH.H ⟨gC,ys,A',c',A1,c1,A2,c2,R⟩ ⟨vM,0,0,0⟩) _ from aA.au) ?_;intro i hi;obtain⟨n1,n2⟩:=aAx i;rcases Nat.lt_or_ge i R with h|h
 ·have o1:kF (bS (eU ys A' c' A1 c1 A2 c2) (mZ i) R 0 0 0) (9+i*259) (.int .i64 (-1)) (bS (eU ys A' c' A1 c1 A2 c2) (mZ (i+1)) R 0 0 0):=⟨aIw rfl n1 oo _,by rw[tI rfl n1 n2];omega⟩;refine aB;exact aR (i+1) h (by show R-(i+1)<R-i;omega) ⟨rfl,rfl,by simp[aI],trivial⟩ aA.au
 ·obtain rfl:i=R:=oo;refine aB;exact cY rfl rfl rfl (show aA (eH.H ⟨gC,ys,A',c',A1,c1,A2,c2,i⟩ ⟨mZ i,0,0,0⟩) _ from aA.au) (.inr ⟨ho,hgc,⟨gC,ys,A',c',A1,c1,A2,c2,i⟩,rfl,rfl,rfl,rfl⟩)
theorem aRh{W H cell:Nat}{ox oy:Int}{f:List Int}{R:Nat}(hW:2≤W∧W≤256∧2≤H∧H≤256∧1≤cell∧cell≤1000)(hz:f.length=W*H)(hi:fD f)(hR:1≤R∧R≤32):jS (fK W H cell ox oy f) f R :=
 ⟨aRv W H cell ox oy f,by have:=aRw (cell:=cell) (ox:=ox) (oy:=oy) (by omega:W≤256∧H≤256) hz;omega,aJ5 hW hz,aJ4 hW hz hi,hR⟩
