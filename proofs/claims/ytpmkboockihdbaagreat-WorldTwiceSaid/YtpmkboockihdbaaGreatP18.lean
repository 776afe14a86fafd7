import Derived.Test.YtpmkboockihdbaaGreatP14
import Derived.Test.YtpmkboockihdbaaGreatP17
set_option maxHeartbeats 512000000
set_option maxRecDepth 4000
set_option linter.unusedVariables false
set_option linter.unusedSimpArgs false
namespace Go.Proofs.YtpmkboockihdbaaGreat
open Go.RowKit _root_.Go.Proofs.Tryz
def zM(ys:List Int)(f:List Int):Prop:=dK f∧f.length=wY ys*hY ys∧∀j,j<nY ys→pD ys j=qK (wY ys) (hY ys) f j
theorem zM.til{ys f:List Int}(h:zM ys f){i:Nat}(hi:i<nY ys):oO ys i (kM (wY ys) (hY ys) f i):=⟨aCw h.2.1,aLe h.1 _ _ _,h.2.2 i hi⟩
theorem oO.one{ys a b:List Int}{i:Nat}(hi:i<nY ys)(h:oO ys i a)(g:oO ys i b):a=b:=by have hb:=aBv (W:=wY ys) (H:=hY ys) hi;have e:=h.2.2.symm.trans g.2.2;have e2:=congrArg (fun l=>l.take (l.length-4)) e;simp only[aK9]at e2;exact aQw (by omega:0<eM (wY ys) (hY ys) i) (by rw[h.1,g.1]) g.2.1 h.2.1 e2
def pI(ys:List Int)(code:Int):Prop:=(code≠0∧mG ys=code)∨(mG ys=0∧∃i,i<nY ys∧yH ys i code∧(∀z,¬oO ys i z)∧∀j,j<i→∃z,oO ys j z)∨(mG ys=0∧code=0∧∀j,j<nY ys→∃z,oO ys j z)
def aQ4(ys:List Int)(v:Value)(S':List HE):Prop :=
 (∃code,code≠0∧pI ys code∧v=.tuple #[.agg #[.int .i64 0,.int .i64 0,.slice none 0 0,.int .i64 0,.int .i32 0,.int .i32 0],.int .i64 code]∧S'=[]) ∨
 (pI ys 0∧∃(g:List Int) (A:Option Addr) (c:Nat),g.length=wY ys*hY ys∧(∀f,zM ys f→g=f)∧v=.tuple #[.agg #[.int .i64 (wY ys:Nat),.int .i64 (hY ys:Nat),.slice A g.length c,.int .i64 (nW ys:Nat),.int .i32 (kN (dW ys 10 4)),.int .i32 (kN (dW ys 14 4))],.int .i64 0] ∧
  S'=[.row (.slice A g.length c) 121 1 g.length (aC .i16 g)])
theorem aW0(W H m:Nat)(A B:Option Addr)(c d:Nat)(z ys:List Int)(X Y:Int)(w:World)(hzm:z.length=m)(hown:aZ [.row (.slice A m c) 121 1 m (aC .i16 z)] w)(hr:bF w (aV [.row (.slice A m c) 121 1 m (aC .i16 z)]) B ys.length d 1 (aC .i16 ys))(hX:aP .i64 X)(hY:aP .i64 Y)(hm:2≤W∧W≤256∧2≤H∧H≤256)(hz:z.length=W*H)(hc:z.length≤c)(hyb:ys.length<1000000)(hys:ys.length=(dA W H X Y).2.2.1*(dA W H X Y).2.2.2∧0<(dA W H X Y).2.2.1):
  aF prog 161 [.agg #[.int .i64 W,.int .i64 H,.slice A m c],.agg #[.int .i64 X,.int .i64 Y],.slice B ys.length d] [.row (.slice A m c) 121 1 m (aC .i16 z)] w
   (fun v S'=>v=.bool true∧S'=[.row (.slice A m c) 121 1 m (aC .i16 (qX ys W (dA W H X Y).1 (dA W H X Y).2.1 (dA W H X Y).2.2.1 z (dA W H X Y).2.2.2))]):=by
 subst hzm;refine(aVy W H A B c d z ys X Y w hown hr hX hY hm hz hc hyb).mono ?_;rintro v S' (⟨h1,-,-,h2⟩ | ⟨-,h2,-⟩)
 ·exact⟨h1,h2⟩
 ·exact absurd hys h2
attribute [local irreducible] OJ J bO Code.wpIn wpListIn Oper.wpIn bodyPost CallsIn aF
theorem aUi(A:Option Addr)(c:Nat)(ys:List Int)(w:World)(hr:bF w (aV []) A ys.length c 1 (aC .u8 ys))(hu:dV ys)(hm:ys.length<100000000):
  aF prog 108 [.slice A ys.length c] [] w (aQ4 ys):=by
 refine aJ func108 rfl ntmps108 rfl ⟨aE,.nil⟩ (fun n=>?_);simp only[aG];refine aB;rename_i b2;refine lf rfl rfl rfl (S:=[]) (fun w hw ho=>aN0 A c ys w ⟨hr.h.go hw (aD.nil _)⟩ hu hm) ?_;rintro v S' hop;rcases hop with⟨hoc,A1,c1,A2,c2,rfl,rfl⟩ | ⟨hoc,rfl,rfl⟩
 rotate_left
 ·generalize hcode:mG ys=code at *;refine aB;all_goals first
   | (refine bI;exact .inl ⟨code,hoc,.inl ⟨hoc,hcode⟩,rfl,rfl⟩)
   | (exfalso;omega)
 have hO:=(aMz ys).1 hoc;have hrg:=hO.rng;unfold rE at hrg;have hal:=aF2 ys (nY ys);have hsl:=aI6 ys (nY ys);have hn:nY ys≤256:=xH oo;have hnp:1≤nY ys:=aWw oo;have hpl:=aA4 (wY ys) (nY ys);have hWH:wY ys*hY ys≤65536:=by have:=Nat.mul_le_mul (show wY ys≤256 by omega) (show hY ys≤256 by omega);omega
 have hmul:(wY ys:Int)*(hY ys:Int)=((wY ys*hY ys:Nat):Int):=by push_cast;rfl
 have hmi:0≤(wY ys:Int)*(hY ys:Int)∧(wY ys:Int)*(hY ys:Int)≤65536:=by rw[hmul];omega
 refine aB;rename_i b4 b6;refine eX 28 _ rfl (v':=.int .i64 (wY ys*hY ys:Nat)) (by rw[hmul]) ?_;refine aB;rename_i bg;refine lf rfl rfl rfl (S:=[]) (fun w hw ho=>aBn (wY ys) (hY ys) w oo) ?_;rintro v S' ⟨Ap,cp,rfl,rfl⟩;have hnn:nT (wY ys) (hY ys)=nY ys:=rfl;rw[hnn];refine aB;refine eX 39 _ rfl (v':=.int .i64 (nY ys:Nat)) (by rw[hpl]) ?_;refine bT (X:=Nat×List Int) (fun q=>q.1≤nY ys∧q.2.length=wY ys*hY ys∧(∀j,j<q.1→∃z,oO ys j z)∧∀f,zM ys f→uX (wY ys) (hY ys) f q.2 q.1)
  (fun q=>[(0,.slice A ys.length c),(2,.pointer (some ⟨b2,0,none⟩)),(4,.pointer (some ⟨b4,0,none⟩)),(5,.int .i64 0),(6,.pointer (some ⟨b6,0,none⟩)),(38,.slice Ap (jB (wY ys) (nY ys)).length cp),(39,.int .i64 (nY ys:Nat)),(40,.int .i64 q.1)])
  (fun q=>[.row (.slice (some ⟨bg,0,none⟩) (wY ys*hY ys) (wY ys*hY ys)) 121 1 (wY ys*hY ys) (aC .i16 q.2),.blk b6 30 [.int .i64 (wY ys:Nat),.int .i64 (hY ys:Nat),.slice (some ⟨bg,0,none⟩) (wY ys*hY ys) (wY ys*hY ys),.int .i64 (nW ys:Nat),.int .i32 (kN (dW ys 10 4)),.int .i32 (kN (dW ys 14 4))],.row (.slice Ap (jB (wY ys) (nY ys)).length cp) 209 2 (jB (wY ys) (nY ys)).length (aR zD (jB (wY ys) (nY ys))),.blk b4 219 [.int .i64 (wY ys:Nat),.int .i64 (hY ys:Nat),.slice none 0 0,.int .i64 (nW ys:Nat),.int .i32 (kN (dW ys 10 4)),.int .i32 (kN (dW ys 14 4)),.slice A1 (dZ ys (nY ys)).length c1,.slice A2 (eJ ys (nY ys)).length c2],.row (.slice A1 (dZ ys (nY ys)).length c1) 3 1 (dZ ys (nY ys)).length (aC .i64 (dZ ys (nY ys))),.row (.slice A2 (eJ ys (nY ys)).length c2) 3 1 (eJ ys (nY ys)).length (aC .i64 (eJ ys (nY ys))),.blk b2 30 [.int .i64 0,.int .i64 0,.slice none 0 0,.int .i64 0,.int .i32 0,.int .i32 0]]) (fun q=>nY ys-q.1) (0,List.replicate (wY ys*hY ys) 0) ⟨aE,aE,fun j hj=>by omega,fun f hf=>uX.zero aE⟩ ⟨rfl,rfl,rfl,rfl,rfl,rfl,rfl,rfl,trivial⟩ aA.au ?_
 rintro⟨i,g⟩ ⟨hi,hgl,hj,hg⟩;dsimp only at hi hgl hj hg ⊢;rcases Nat.lt_or_ge i (nY ys) with h|h
 ·have hpg:=aDn (wY ys) _ i h;obtain⟨hX,hY'⟩:=aEa (W:=wY ys) (H:=hY ys) (i:=i) oo h;have hbx:=aBv (W:=wY ys) (H:=hY ys) h;refine aB;simp only[hpg];refine lf rfl rfl rfl (S:=[]) (fun w hw ho=>aKe A c ys A1 A2 c1 c2 i w ⟨hr.h.go hw (aD.nil _)⟩ ⟨Ro.row hw (aD.nil _) (by refine bV)⟩ ⟨Ro.row hw (aD.nil _) (by refine bV)⟩ hu hm hO h) ?_;rintro v S' ⟨zs,Az,cz,code,T,rfl,rfl,hz⟩;refine kF (H':=.row (.slice Az zs.length cz) 121 1 zs.length (aC .i16 zs)::_) (.cons (.here _ _) (aA.appR T _)) ?_;rcases hz with⟨rfl,hok⟩ | ⟨hcode,rfl,hno⟩
  rotate_left
  ·have hne:=hcode.ne;refine aB;all_goals first
    | (exfalso;omega)
    | (refine bI;exact .inl ⟨code,hne,.inr (.inl ⟨hoc,i,h,hcode,hno,hj⟩),rfl,rfl⟩)
  ·have hzl:zs.length≤256:=by have:=Nat.mul_le_mul hbx.2.1 hbx.2.2.2;rw[hok.1];exact this
   refine aB;refine fS (S:=[.row (.slice (some ⟨bg,0,none⟩) (wY ys*hY ys) (wY ys*hY ys)) 121 1 (wY ys*hY ys) (aC .i16 g)]) rfl rfl (by first|exact(aD.cons (.there _ (.here _ _)) (aD.nil _))|exact(aD.cons (.there _ (.there _ (.here _ _))) (aD.nil _))|exact(aD.cons (.there _ (.there _ (.there _ (.here _ _)))) (aD.nil _))) rfl (fun w hw ho=>aW0 (wY ys) (hY ys) (wY ys*hY ys) (some ⟨bg,0,none⟩) Az (wY ys*hY ys) cz g zs (tX (wY ys) i) (tY (wY ys) i) w hgl ho ⟨Ro.row hw (by first|exact(aD.cons (.there _ (.here _ _)) (aD.nil _))|exact(aD.cons (.there _ (.there _ (.here _ _))) (aD.nil _))|exact(aD.cons (.there _ (.there _ (.there _ (.here _ _)))) (aD.nil _))) (by refine bV)⟩ hX hY' oo hgl oo oo ⟨hok.1,by show 0<eM _ _ _;omega⟩) ?_;rintro v S' ⟨rfl,rfl⟩;refine aB;refine aN (i+1,qX zs (wY ys) (dA (wY ys) (hY ys) (tX (wY ys) i) (tY (wY ys) i)).1 (dA (wY ys) (hY ys) (tX (wY ys) i) (tY (wY ys) i)).2.1 (dA (wY ys) (hY ys) (tX (wY ys) i) (tY (wY ys) i)).2.2.1 g (dA (wY ys) (hY ys) (tX (wY ys) i) (tY (wY ys) i)).2.2.2) ⟨by show i+1≤_;omega,?_,fun j hjj=>?_,fun f hf=>?_⟩ (by show _-(i+1)<_-i;omega) ⟨rfl,rfl,rfl,rfl,rfl,rfl,rfl,by simp[aH],trivial⟩ aA.au
   ·have hbi:=wO (wY ys) (hY ys) (tX (wY ys) i) (tY (wY ys) i);exact aBb hgl hbi.1 hbi.2.1 hok.1 _ (Nat.le_refl _)
   ·rcases Nat.lt_or_ge j i with h1|h1
    ·exact hj j h1
    ·rw[show j=i by have:j<i+1:=hjj;omega];exact⟨zs,hok⟩
   ·have e:=oO.one h hok (hf.til h);subst e;exact(hg f hf).next hf.2.1 h
 ·obtain rfl:i=nY ys:=oo;refine aB;refine eD (.cons (.here _ _) (.nil _)) ?_;refine cY;refine .inr ⟨.inr (.inr ⟨hoc,rfl,hj⟩),g,some ⟨bg,0,none⟩,wY ys*hY ys,hgl,fun f hf=>(hg f hf).all hf.2.1,by rw[hgl];rfl,by rw[hgl]⟩
theorem aWj(a b:Int)(ha:aP .u8 a)(hb:aP .u8 b)(W H:Nat)(hW:2+a%39=W)(hH:2+b%39=H)(A:Option Addr)(c:Nat)(z:List Int)(cell:Int)(hc:aP .u16 cell)(ox oy:Int)(w:World)(hr:bF w (aV []) A z.length c 1 (aC .i16 z))(hm:z.length<1000000):
  aF prog 11 [.int .u8 a,.int .u8 b,.slice A z.length c,.int .u16 cell,.int .i32 ox,.int .i32 oy] [] w (fun v S'=>∃A' c',v=.agg #[.int .i64 W,.int .i64 H,.slice A' (mD z (W*H)).length c',.int .i64 (1+cell%1000),.int .i32 ox,.int .i32 oy]∧S'=[.row (.slice A' (mD z (W*H)).length c') 121 1 (mD z (W*H)).length (aC .i16 (mD z (W*H)))]):=by
 have hc1:0≤cell∧cell≤65535:=hc;refine aJ func11 rfl ntmps11 rfl ⟨aE,.nil⟩ (fun n=>?_);simp only[aG];refine aB;refine lf rfl rfl rfl (S:=[]) (fun w hw ho=>aTv a b ha hb W H hW hH A c z w ⟨hr.h.go hw (aD.nil _)⟩ hm) ?_;rintro v S' ⟨Af,cf,rfl,rfl⟩;refine aB;refine eD (.cons (.here _ _) (.nil _)) ?_;refine cY;exact⟨_,_,rfl,rfl⟩
theorem bCz(x:Int): -32768≤IntKind.i16.wrap x∧IntKind.i16.wrap x≤32767:=by
 have h:IntKind.i16.wrap x=if 32768≤x%65536 then x%65536-65536 else x%65536:=by simp[IntKind.wrap,IntKind.bits,IntKind.signed]
 rw[h];split<;>omega
theorem aTw{z:List Int}(hz:∀v∈z,aP .i16 v)(m:Nat):dK (mD z m):=aLf fun v hv=>by
 unfold mD at hv;obtain⟨i,-,rfl⟩:=List.mem_map.1 hv;unfold wZ;split
 ·rename_i h;rw[List.getD_eq_getElem?_getD,List.getElem?_eq_getElem h];exact hz _ (List.getElem_mem ..)
 split
 ·exact bCz _
 ·show -32768≤((i%7:Nat):Int)∧((i%7:Nat):Int)≤32767;omega
theorem aJw{W H cell:Nat}{ox oy:Int}{z:List Int}(hW:2≤W∧W≤256∧2≤H∧H≤256∧1≤cell∧cell≤1000)(hz:z.length=W*H)(hi:dK z):zM (fR W H cell ox oy z) z:=by obtain⟨-,h2,h3,-⟩:=aAw (W:=W) (H:=H) (cell:=cell) (ox:=ox) (oy:=oy) (z:=z) oo;refine⟨hi,by rw[h2,h3,hz],fun j hj=>?_⟩;rw[h2,h3];exact aSn oo hz (by unfold nY at hj;rw[h2,h3]at hj;exact hj)
theorem aJv{W H cell:Nat}{ox oy:Int}{z:List Int}(hW:2≤W∧W≤256∧2≤H∧H≤256∧1≤cell∧cell≤1000)(hz:z.length=W*H)(hi:dK z):pI (fR W H cell ox oy z) 0 :=
 .inr (.inr ⟨(aMz _).2 (aJx hW hz),rfl,fun j hj=>⟨_,(aJw hW hz hi).til hj⟩⟩)
theorem aSl{W H cell:Nat}{ox oy:Int}{z:List Int}(hW:W≤256∧H≤256)(hz:z.length=W*H):gM W H≤(fR W H cell ox oy z).length∧(fR W H cell ox oy z).length<1000000:=by have h1:=xH hW;have h2:=aCg hz (nT W H);rw[aJu];have:gM W H=22+6*nT W H:=rfl;omega
end Go.Proofs.YtpmkboockihdbaaGreat
namespace Go.Proofs.YtpmkboockihdbaaGreat
open Go.RowKit _root_.Go.Proofs.Tryz
section
variable {N:Nat} {ds:List Deferred} {w0:World} {W:Nat→Prop} {σ:List (Nat×Value)} {H R:List HE} {q:Act→World→Prop}
end
def jP(W H:Nat)(z:List Int)(x y:Int):Int×Int :=
 if x<0∨y<0∨(W:Int)≤x∨(H:Int)≤y then (0,9)else if z.getD (y*W+x).toNat 0 = -32768 then (0,8)else (z.getD (y*W+x).toNat 0,0)
structure fB where
 t:Int
 w:Int
 z:List Int
 u:Int
instance:Inhabited fB:=⟨⟨0,0,[],0⟩⟩
def lW(s:fB):List Value:=.int .i64 s.t::.int .i64 s.w::(aC .i16 s.z++[.int .i64 s.u])
def pT(l:List fB):List Value:=l.flatMap lW
def gX(l:List fB):Prop:=∀s∈l,s.z.length=256
def bZ(pre:List Value)(l:List fB)(room clock met miss:Int):List Value:=pre++(pT l++[.int .i64 room,.int .i64 clock,.int .i64 met,.int .i64 miss])
theorem zB{s:fB}(h:s.z.length=256):(lW s).length=259:=by simp[lW,aC,h]
theorem uO:∀{l:List fB},gX l→(pT l).length=259*l.length
 | [],_=>rfl
 | s::r,h=>by have h1:=zB (h s (List.mem_cons_self ..));have h2:=uO (l:=r) (fun x hx=>h x (List.mem_cons_of_mem _ hx));unfold pT at h2 ⊢;rw[List.flatMap_cons,List.length_append,h1,h2,List.length_cons];omega
theorem aOj:∀{l:List fB} (_:gX l) (i j:Nat),i<l.length→j<259→(pT l)[i*259+j]? = (lW (l.getD i default))[j]?
 | [],_,i,j,hi,_=>by simp at hi
 | s::r,h,0,j,_,hj=>by
  have h1:=zB (h s (List.mem_cons_self ..));unfold pT;rw[List.flatMap_cons,Nat.zero_mul,Nat.zero_add,List.getElem?_append_left oo];rfl
 | s::r,h,i+1,j,hi,hj=>by have h1:=zB (h s (List.mem_cons_self ..));have ih:=aOj (l:=r) (fun x hx=>h x (List.mem_cons_of_mem _ hx)) i j (by simpa using hi) hj;unfold pT at ih ⊢;rw[List.flatMap_cons,List.getElem?_append_right oo,h1,show (i+1)*259+j-259=i*259+j by omega,ih];rfl
section
variable {pre:List Value} {l:List fB} {room clock met miss:Int}
theorem aCm(hp:pre.length=9)(hl:gX l){i j:Nat}(hi:i<l.length)(hj:j<259):(bZ pre l room clock met miss)[9+i*259+j]? = (lW (l.getD i default))[j]?:=by have hs:=uO hl;unfold bZ;rw[List.getElem?_append_right oo,hp,show 9+i*259+j-9=i*259+j by omega,List.getElem?_append_left oo];exact aOj hl i j hi hj
theorem aJp(hp:pre.length=9)(hl:gX l){i:Nat}(hi:i<l.length):(bZ pre l room clock met miss)[9+i*259]? = some (.int .i64 (l.getD i default).t):=aCm hp hl hi (j:=0) oo
theorem aSe(hp:pre.length=9)(hl:gX l){i:Nat}(hi:i<l.length):(bZ pre l room clock met miss)[9+i*259+1]? = some (.int .i64 (l.getD i default).w):=aCm hp hl hi (j:=1) oo
theorem aSd(hp:pre.length=9)(hl:gX l){i:Nat}(hi:i<l.length):(bZ pre l room clock met miss)[9+i*259+258]? = some (.int .i64 (l.getD i default).u):=by rw[aCm hp hl hi oo];have hm:(l.getD i default).z.length=256:=hl _ (by rw[List.getD_eq_getElem?_getD,List.getElem?_eq_getElem hi];exact List.getElem_mem ..);generalize l.getD i default=s at *;unfold lW;rw[List.getElem?_cons_succ,List.getElem?_cons_succ,List.getElem?_append_right (by rw[gN,hm];exact Nat.le_refl _),gN,hm];rfl
theorem aSf(hp:pre.length=9)(hl:gX l){i j:Nat}(hi:i<l.length)(hj:j<256):(bZ pre l room clock met miss)[9+i*259+(2+j)]? = some (.int .i16 ((l.getD i default).z.getD j 0)):=by rw[aCm hp hl hi oo];have hm:(l.getD i default).z.length=256:=hl _ (by rw[List.getD_eq_getElem?_getD,List.getElem?_eq_getElem hi];exact List.getElem_mem ..);generalize l.getD i default=s at *;unfold lW;rw[show 2+j=j+1+1 by omega,List.getElem?_cons_succ,List.getElem?_cons_succ,List.getElem?_append_left (by rw[gN,hm];exact hj)];simp only[aC,List.getElem?_map,List.getD_eq_getElem?_getD,List.getElem?_eq_getElem (show j<s.z.length by omega)];rfl
theorem yJ(hp:pre.length=9)(hl:gX l)(h32:l.length=32)(k:Nat):(bZ pre l room clock met miss)[8297+k]? = [Value.int .i64 room,.int .i64 clock,.int .i64 met,.int .i64 miss][k]?:=by have hs:=uO hl;unfold bZ;rw[List.getElem?_append_right oo,List.getElem?_append_right oo];congr 1;omega
end
class rO(P:Program)(e:TypeId)(sz:outParam Nat):Prop where h:∃i,P.info? e=some i∧i.size=sz
instance:rO prog 222 259:=⟨Tryz.t222,by kernel_rfl,by kernel_rfl⟩
instance (priority:=100) {P:Program}{w0:World}{W:Nat→Prop}{H:List HE}(x y:Operand)(t e m b q sz j r r':Nat)(k:IntKind)[hu:aO P t (.array m e)][hI:rO P e sz][hm:rN j sz r][hr:nR q r r']:LV P w0 W H (.indexAddr t x y) [.pointer (some ⟨b,q,none⟩),.int k (j:Int)] (.pointer (some ⟨b,r',none⟩)) (j<m):=⟨by rintro hi ρ ⟨dst,op',ty,pos,aft,gd⟩ rfl h w _;obtain⟨hx,hy⟩:=qZ h;have h1:=hu.h;obtain⟨ii,h2,h3⟩:=hI.h;rw[← hr.h,← hm.h];simp[execOp,hx,hy,Instr.indexAt,run_underlying h1,asIntOf,sizeOf,typeInfo,h2,h3,hi,pJ,Instr.sureAddr]⟩
instance (priority:=100) {P:Program}{w0:World}{W:Nat→Prop}{H:List HE}(x y:Operand)(t e m b q sz j r r':Nat)(k:IntKind)[hu:aO P t (.array m e)][hI:rO P e sz][hm:rN j sz r][hr:nR q r r']:MS P w0 W H (.indexAddr t x y) [.pointer (some ⟨b,q,none⟩),.int k (j:Int)] (.pointer (some ⟨b,r',none⟩)) (j<m) :=
 ⟨fun hc _ _ _ _ _ _ _ _ _ _ _ _ _ h1 h2 h3=>dS aE rfl h2 (fun a w ha _=>by obtain⟨p1,p2⟩:=dH h1;have g1:=hu.h;obtain⟨ii,g2,g3⟩:=hI.h;rw[← hr.h,← hm.h];simp[execOp,ha.eval p1,ha.eval p2,Instr.indexAt,run_underlying g1,asIntOf,sizeOf,typeInfo,g2,g3,hc,pJ,Instr.sureAddr]) h3⟩
def qD(l:List fB):Nat→Nat
 | 0=>0
 | i+1=>if (l.getD i default).u<(l.getD (qD l i) default).u then i else qD l i
theorem aH1(l:List fB):∀i,0<i→qD l i<i
 | 0,h=>by omega
 | i+1,_=>by
  unfold qD;split
  ·omega
  ·rcases Nat.eq_zero_or_pos i with e|e
   ·subst e;simp[qD]
   ·have:=aH1 l i e;omega
attribute [local irreducible] OJ J bO Code.wpIn wpListIn Oper.wpIn bodyPost CallsIn aF
theorem aXh(g:Nat)(pre:List Value)(l:List fB)(room:Nat)(clock met miss:Int)(w:World)(hown:aZ [.blk g 225 (bZ pre l room clock met miss)] w)(hp:pre.length=9)(hl:gX l)(h32:l.length=32)(hr:1≤room∧room≤32):
  aF prog 215 [.pointer (some ⟨g,0,none⟩)] [.blk g 225 (bZ pre l room clock met miss)] w (fun v S'=>∃k,k<room∧v=.pointer (some ⟨g,9+k*259,none⟩)∧(((l.getD k default).t<0∧∀j,j<k→0≤(l.getD j default).t)∨((∀j,j<room→0≤(l.getD j default).t)∧k=qD l room))∧S'=[.blk g 225 (bZ pre l room clock met miss)]):=by
 have i0:cZ (bZ pre l room clock met miss) 8297 (.int .i64 room):=⟨yJ hp hl h32 0⟩;have ft:=fun i (hi:i<32)=>aJp (pre:=pre) (l:=l) (room:=room) (clock:=clock) (met:=met) (miss:=miss) hp hl (i:=i) oo;have fu:=fun i (hi:i<32)=>aSd (pre:=pre) (l:=l) (room:=room) (clock:=clock) (met:=met) (miss:=miss) hp hl (i:=i) oo;refine aJ func215 rfl ntmps215 rfl hown (fun n=>?_);simp only[aG];generalize bZ pre l room clock met miss=cs at *;refine aB;refine bT (X:=Nat) (fun i=>i≤room∧∀j,j<i→0≤(l.getD j default).t) (fun i=>[(0,.pointer (some ⟨g,0,none⟩)),(3,.int .i64 (qD l i:Nat)),(8,.int .i64 room),(9,.int .i64 i)]) (fun _=>[.blk g 225 cs]) (fun i=>room-i) 0 ⟨oo,fun j hj=>by omega⟩ ⟨rfl,rfl,rfl,rfl,trivial⟩ (aA.refl _) ?_;rintro i ⟨hi,hj⟩;rcases Nat.lt_or_ge i room with h|h
 ·have i1:cZ cs (9+i*259) (.int .i64 (l.getD i default).t):=⟨ft i oo⟩;have i2:cZ cs (9+i*259+258) (.int .i64 (l.getD i default).u):=⟨fu i oo⟩;have ho:qD l i<32:=by
   rcases Nat.eq_zero_or_pos i with e|e
   ·subst e;simp[qD]
   ·have:=aH1 l i e;omega
  have i3:cZ cs (9+qD l i*259+258) (.int .i64 (l.getD (qD l i) default).u):=⟨fu _ ho⟩;have e:=qD.eq_2 l i;refine aB
  ·exact aK rfl rfl (aA.refl _) ⟨i,h,rfl,.inl ⟨oa,hj⟩,rfl⟩
  ·refine aN (i+1) ⟨oo,fun j hjj=>?_⟩ (by show room-(i+1)<room-i;omega) ⟨rfl,by rw[e,if_pos oa];rfl,rfl,by simp[aH],trivial⟩ (aA.refl _);rcases Nat.lt_or_ge j i with h1|h1
   ·exact hj j h1
   ·rw[show j=i by omega];omega
  ·refine aN (i+1) ⟨oo,fun j hjj=>?_⟩ (by show room-(i+1)<room-i;omega) ⟨rfl,by rw[e,if_neg oa];rfl,rfl,by simp[aH],trivial⟩ (aA.refl _);rcases Nat.lt_or_ge j i with h1|h1
   ·exact hj j h1
   ·rw[show j=i by omega];omega
 ·obtain rfl:i=room:=oo;have ho:=aH1 l i oo;refine aB;exact aK rfl rfl (aA.refl _) ⟨qD l i,ho,rfl,.inr ⟨hj,rfl⟩,rfl⟩
theorem aY1{cs:List Value}{q:Nat}(v:Value)(h:q<cs.length):jK cs q [v] (cs.set q v):=⟨by refine⟨?_,by show q+1≤cs.length;exact h⟩;rw[List.set_eq_take_append_cons_drop,if_pos h];simp⟩
theorem aOl:∀{l:List fB} (_:gX l) (i j:Nat) (v:Value) (s':fB),i<l.length→j<259→lW s'=(lW (l.getD i default)).set j v→pT (l.set i s')=(pT l).set (i*259+j) v
 | [],_,i,j,v,s',hi,_,_=>by simp at hi
 | s::r,h,0,j,v,s',_,hj,e=>by
  have h1:=zB (h s (List.mem_cons_self ..));have e':lW s'=(lW s).set j v:=e;unfold pT;rw[List.set_cons_zero,List.flatMap_cons,List.flatMap_cons,Nat.zero_mul,Nat.zero_add,List.set_append_left _ _ oo,e']
 | s::r,h,i+1,j,v,s',hi,hj,e=>by have h1:=zB (h s (List.mem_cons_self ..));have ih:=aOl (l:=r) (fun x hx=>h x (List.mem_cons_of_mem _ hx)) i j v s' (by simpa using hi) hj e;unfold pT at ih ⊢;rw[List.set_cons_succ,List.flatMap_cons,List.flatMap_cons,ih,List.set_append_right _ _ oo,h1,show (i+1)*259+j-259=i*259+j by omega]
section
variable {pre:List Value} {l:List fB} {room clock met miss:Int}
theorem uC(hp:pre.length=9)(hl:gX l)(h32:l.length=32):(bZ pre l room clock met miss).length=8301:=by have:=uO hl;unfold bZ;simp only[List.length_append,List.length_cons,List.length_nil];omega
theorem aFa(hp:pre.length=9)(hl:gX l){i j:Nat}{v:Value}{s':fB}(hi:i<l.length)(hj:j<259)(e:lW s'=(lW (l.getD i default)).set j v):(bZ pre l room clock met miss).set (9+i*259+j) v=bZ pre (l.set i s') room clock met miss:=by have hs:=uO hl;unfold bZ;rw[List.set_append_right _ _ oo,hp,show 9+i*259+j-9=i*259+j by omega,List.set_append_left _ _ oo,aOl hl i j v s' hi hj e]
theorem aJn(hp:pre.length=9)(hl:gX l){i:Nat}(hi:i<l.length)(t:Int):(bZ pre l room clock met miss).set (9+i*259) (.int .i64 t)=bZ pre (l.set i { l.getD i default with t:=t }) room clock met miss:=aFa hp hl (j:=0) hi oo rfl
theorem aSb(hp:pre.length=9)(hl:gX l){i:Nat}(hi:i<l.length)(t:Int):(bZ pre l room clock met miss).set (9+i*259+1) (.int .i64 t)=bZ pre (l.set i { l.getD i default with w:=t }) room clock met miss:=aFa hp hl (j:=1) hi oo rfl
theorem aJo(hp:pre.length=9)(hl:gX l){i:Nat}(hi:i<l.length)(t:Int):(bZ pre l room clock met miss).set (9+i*259+258) (.int .i64 t)=bZ pre (l.set i { l.getD i default with u:=t }) room clock met miss:=by have hm:(l.getD i default).z.length=256:=hl _ (by rw[List.getD_eq_getElem?_getD,List.getElem?_eq_getElem hi];exact List.getElem_mem ..);refine aFa hp hl (j:=258) hi oo ?_;generalize l.getD i default=s at *;unfold lW;rw[List.set_cons_succ,List.set_cons_succ,List.set_append_right _ _ (by rw[gN,hm];exact Nat.le_refl _),gN,hm];rfl
theorem gX.set{l:List fB}(hl:gX l)(i:Nat){s:fB}(h:s.z.length=256):gX (l.set i s):=fun x hx=>by
 rcases List.mem_or_eq_of_mem_set hx with h1|h1
 ·exact hl x h1
 ·rw[h1];exact h
theorem aS7(hp:pre.length=9)(hl:gX l)(h32:l.length=32)(x:Int):(bZ pre l room clock met miss).set 8298 (.int .i64 x)=bZ pre l room x met miss:=by have hs:=uO hl;unfold bZ;rw[List.set_append_right _ _ oo,List.set_append_right _ _ oo,hp,hs,h32];rfl
theorem aS8(hp:pre.length=9)(hl:gX l)(h32:l.length=32)(x:Int):(bZ pre l room clock met miss).set 8299 (.int .i64 x)=bZ pre l room clock x miss:=by have hs:=uO hl;unfold bZ;rw[List.set_append_right _ _ oo,List.set_append_right _ _ oo,hp,hs,h32];rfl
theorem aS9(hp:pre.length=9)(hl:gX l)(h32:l.length=32)(x:Int):(bZ pre l room clock met miss).set 8300 (.int .i64 x)=bZ pre l room clock met x:=by have hs:=uO hl;unfold bZ;rw[List.set_append_right _ _ oo,List.set_append_right _ _ oo,hp,hs,h32];rfl
end
end Go.Proofs.YtpmkboockihdbaaGreat
namespace Go.Proofs.YtpmkboockihdbaaGreat
open Go.RowKit _root_.Go.Proofs.Tryz
section
variable {P:Program} {w0:World} {W:Nat→Prop} {H:List HE}
instance (t e m b q sz:Nat)(x:Operand)[hu:aO P t (.array m e)][hI:rO P e sz]:MS P w0 W H (.slice t x none none none) [.pointer (some ⟨b,q,none⟩)] (.slice (some ⟨b,q,none⟩) m m) True :=
 ⟨fun _ _ _ _ _ _ _ _ _ _ _ _ _ _ h1 h2 h3=>dS aE rfl h2 (fun a w ha _=>by have p1:=kW rfl h1;have g1:=hu.h;obtain⟨ii,g2,g3⟩:=hI.h;simp[execOp,ha.eval p1,Instr.sliceAt,Instr.sliceBounds,run_underlying g1,sizeOf,typeInfo,g2,Instr.sureAddr];intro _;simp[Addr.add]) h3⟩
end
theorem aZ9{F:Fence}{P:Program}{n N:Nat}{ds:List Deferred}{w0:World}{W:Nat→Prop}{H:List HE}{σ:List (Nat×Value)}{d:Nat}{ty:TypeId}{pos:String}{aft:Array Edge}{gd:Option (Nat×Bool)}{K:Act→World→Prop}{Q:Exit→Act→World→Prop}[hF:aX F]{t e bs g o dl dc j tb:Nat}{z u:Value}{k:IntKind}{cs:List Value}{ys:List Int}{x y:Operand}{kk:HE→List HE}[aO P t (.slice e)][hI:bH P e 1 bs z]
  [hb:At g H tb cs kk] [hs:wK w0 W H e 1 u j (aC k ys)] (hv:vals σ [x,y]=some [.slice (some ⟨g,o,none⟩) dl dc,u]) (hc:0<j∧j≤dl∧o+j≤cs.length) (hdN:Nat.blt d N=true)
  (h:J N ds w0 W ((d,.int .i64 j)::σ) (kk (.blk g tb (cs.take o++aC k ys++cs.drop (o+j)))) K):OJ F n P N ds w0 W σ H ⟨some d,.call ⟨.builtin .copy,#[x,y],#[t,t]⟩,ty,pos,aft,gd⟩ K Q:=by
 obtain⟨R,h2,h3⟩:=hb.h;intro a w ha hw;obtain⟨p,q⟩:=dH hv;obtain⟨A',c',rfl,-,-,e2,e3⟩:=hs.h w hw;have hyl:ys.length=j:=by simpa using e2
 have hg:w.heap[g]? = some (.cells cs.toArray tb (0,0)):=hw.has h2;have hinf:(P.info? e).map (·.size)=some 1:=bH.size (z:=z) (bs:=bs);have hut:=aO.h (P:=P) (t:=t);obtain⟨b',off',rfl,hcell⟩:=e3 hc.1;have hrun:=run_copy_row P w t t ty e g o dl dc ⟨b',off',none⟩ j c' cs.toArray tb (aC k ys) hut hinf hg (by rw[gN,hyl];exact(Nat.min_eq_left hc.2.1).symm) (fun q v hq=>by rw[pJ];exact hcell q v hq w hw) (by rw[gN,hyl];simpa using hc.2.2) (by intro v hv;obtain⟨x,-,rfl⟩:=List.mem_map.1 hv;rfl);rw[gN,hyl]at hrun;refine⟨fun f _=>hF.out.fn f,?_⟩;rw[Oper.semAt_plain F _ _ aE];simp only[execOp,resolve,invoke,builtin,Sem.run_bind,Sem.run_pure,Result.andThen_ok,List.map_toArray,List.map_cons,List.map_nil,ha.eval p,ha.eval q,hrun,Oper.uponIn_value];refine h _ _ (ha.put d _ (by simpa using hdN)) ?_;have hst:St w0 W (.blk g tb (cs.take o++aC k ys++cs.drop (o+j))::R) (w.setRow g (cs.take o++aC k ys++cs.drop (o+j)).toArray):=by refine hw.turn h2 ?_ rfl rfl rfl aE (fun b _ hk=>Go.setRow_other _ _ _ _ (fun e=>hk (by rw[e];rfl))) (.inl rfl);exact Go.setRow_heap w g _ _ tb _ hg
 exact hst.sub (h3 _)
theorem aW3{F:Fence}{P:Program}{n N:Nat}{ds:List Deferred}{w0:World}{W:Nat→Prop}{H:List HE}{σ:List (Nat×Value)}{ops:Array Oper}{rest:List Oper}{d:Nat}{ty:TypeId}{pos:String}{aft:Array Edge}{gd:Option (Nat×Bool)}{Q:Exit→Act→World→Prop}[aX F]{t e bs g o dl dc j tb:Nat}{z u:Value}{k:IntKind}{cs:List Value}{ys:List Int}{x y:Operand}{kk:HE→List HE}[aO P t (.slice e)][bH P e 1 bs z]
  (hw:cB ops σ ⟨some d,.call ⟨.builtin .copy,#[x,y],#[t,t]⟩,ty,pos,aft,gd⟩=some true) (hv:vals σ [x,y]=some [.slice (some ⟨g,o,none⟩) dl dc,u]) [hb:At g H tb cs kk] [hs:wK w0 W H e 1 u j (aC k ys)] (hc:0<j∧j≤dl∧o+j≤cs.length) (hdN:Nat.blt d N=true)
  (h:J N ds w0 W ((d,.int .i64 j)::σ) (kk (.blk g tb (cs.take o++aC k ys++cs.drop (o+j)))) (wpListIn F n P ops Q rest)) :
  J N ds w0 W σ H (wpListIn F n P ops Q (⟨some d,.call ⟨.builtin .copy,#[x,y],#[t,t]⟩,ty,pos,aft,gd⟩::rest)):=kT hw (aZ9 (z:=z) (bs:=bs) hv hc hdN h)
instance:rO prog 121 1:=⟨Tryz.t121,by kernel_rfl,by kernel_rfl⟩
theorem aOk:∀{l:List fB} (_:gX l) (i j:Nat) (vs:List Value) (s':fB),i<l.length→j+vs.length≤259→(lW (l.getD i default)).take j++vs++(lW (l.getD i default)).drop (j+vs.length)=lW s'→(pT l).take (i*259+j)++vs++(pT l).drop (i*259+j+vs.length)=pT (l.set i s')
 | [],_,i,j,vs,s',hi,_,_=>by simp at hi
 | s::r,h,0,j,vs,s',_,hj,e=>by
  have h1:=zB (h s (List.mem_cons_self ..));have e':(lW s).take j++vs++(lW s).drop (j+vs.length)=lW s':=e;unfold pT;rw[List.set_cons_zero,List.flatMap_cons,List.flatMap_cons,Nat.zero_mul,Nat.zero_add,List.take_append_of_le_length oo,List.drop_append_of_le_length oo,← e',List.append_assoc,List.append_assoc,List.append_assoc]
 | s::r,h,i+1,j,vs,s',hi,hj,e=>by have h1:=zB (h s (List.mem_cons_self ..));have ih:=aOk (l:=r) (fun x hx=>h x (List.mem_cons_of_mem _ hx)) i j vs s' (by simpa using hi) hj e;unfold pT at ih ⊢;rw[List.set_cons_succ,List.flatMap_cons,List.flatMap_cons,← ih,List.take_append,List.drop_append,List.take_of_length_le oo,List.drop_eq_nil_of_le oo,List.nil_append,h1,show (i+1)*259+j-259=i*259+j by omega,show (i+1)*259+j+vs.length-259=i*259+j+vs.length by omega,List.append_assoc,List.append_assoc,List.append_assoc]
section
variable {pre:List Value} {l:List fB} {room clock met miss:Int}
theorem aSc(hp:pre.length=9)(hl:gX l){i:Nat}(hi:i<l.length){zs:List Int}(hz:zs.length≤256):(bZ pre l room clock met miss).take (9+i*259+2)++aC .i16 zs++(bZ pre l room clock met miss).drop (9+i*259+2+zs.length)=bZ pre (l.set i { l.getD i default with z:=zs++(l.getD i default).z.drop zs.length }) room clock met miss:=by have hs:=uO hl;have hm:(l.getD i default).z.length=256:=hl _ (by rw[List.getD_eq_getElem?_getD,List.getElem?_eq_getElem hi];exact List.getElem_mem ..);have e:=aOk hl i 2 (aC .i16 zs) { l.getD i default with z:=zs++(l.getD i default).z.drop zs.length } hi (by rw[gN];omega) (by generalize l.getD i default=s at *;rw[gN];unfold lW;rw[show 2+zs.length=zs.length+1+1 by omega,List.take_succ_cons,List.take_succ_cons,List.take_zero,List.drop_succ_cons,List.drop_succ_cons,List.drop_append_of_le_length (by rw[gN];omega),aLh];simp[aC]);rw[gN]at e;unfold bZ;rw[← e,List.take_append,List.take_of_length_le oo,hp,show 9+i*259+2-9=i*259+2 by omega,List.take_append_of_le_length oo,List.drop_append,List.drop_eq_nil_of_le oo,List.nil_append,hp,show 9+i*259+2+zs.length-9=i*259+2+zs.length by omega,List.drop_append_of_le_length oo];simp only[List.append_assoc]
end
abbrev fH(ys:List Int)(A:Option Addr)(c:Nat)(A1:Option Addr)(c1:Nat)(A2:Option Addr)(c2:Nat):List Value:=[.slice A ys.length c,.int .i64 (wY ys:Nat),.int .i64 (hY ys:Nat),.slice none 0 0,.int .i64 (nW ys:Nat),.int .i32 (kN (dW ys 10 4)),.int .i32 (kN (dW ys 14 4)),.slice A1 (dZ ys (nY ys)).length c1,.slice A2 (eJ ys (nY ys)).length c2]
def aQa(l:List fB)(room k:Nat):Prop:=((l.getD k default).t<0∧∀j,j<k→0≤(l.getD j default).t)∨((∀j,j<room→0≤(l.getD j default).t)∧k=qD l room)
def aEl(ys:List Int)(l:List fB)(room:Nat)(clock met miss:Int)(n k:Nat)(l':List fB)(met' miss':Int):Prop :=
 ((l.getD k default).t=n∧(∀j,j<k→(l.getD j default).t≠n)∧l'=l.set k { l.getD k default with u:=clock+1 }∧met'=met+1∧miss'=miss) ∨
 ((∀j,j<room→(l.getD j default).t≠n)∧aQa l room k∧(∃zs,oO ys n zs∧l'=l.set k ⟨n,(eM (wY ys) (hY ys) n:Nat),zs++(l.getD k default).z.drop zs.length,clock+1⟩)∧met'=met∧miss'=miss+1)
theorem aD6{l:List fB}{i:Nat}{s:fB}(h:i<l.length):(l.set i s).getD i default=s:=by simp[List.getD_eq_getElem?_getD,h]
instance {pre:List Value}{l:List fB}{room clock met miss:Int}{q:Nat}{v:Value}[h:cZ pre q v]:cZ (bZ pre l room clock met miss) q v:=⟨by
 have hq:q<pre.length:=by
  rcases Nat.lt_or_ge q pre.length with h1|h1
  ·exact h1
  ·exact absurd h.h (by rw[List.getElem?_eq_none h1];simp)
 unfold bZ;rw[List.getElem?_append_left hq];exact h.h⟩
attribute [local irreducible] OJ J bO Code.wpIn wpListIn Oper.wpIn bodyPost CallsIn aF
theorem aUk(g:Nat)(ys:List Int)(A A1 A2:Option Addr)(c c1 c2:Nat)(l:List fB)(room tn:Nat)(clock met miss:Int)(w:World)(hown:aZ [.blk g 225 (bZ (fH ys A c A1 c1 A2 c2) l room clock met miss),.row (.slice A ys.length c) 5 1 ys.length (aC .u8 ys),.row (.slice A1 (dZ ys (nY ys)).length c1) 3 1 (dZ ys (nY ys)).length (aC .i64 (dZ ys (nY ys))),.row (.slice A2 (eJ ys (nY ys)).length c2) 3 1 (eJ ys (nY ys)).length (aC .i64 (eJ ys (nY ys)))] w)
  (hl:gX l) (h32:l.length=32) (hr:1≤room∧room≤32) (hcl:(0≤clock∧clock≤1000000000000000000)∧(0≤met∧met≤1000000000000000000)∧(0≤miss∧miss≤1000000000000000000)) (hu:dV ys) (hm:ys.length<100000000) (hO:yC ys) (hn:tn<nY ys) (hg:∀i,i<nY ys→∃z,oO ys i z) :
  aF prog 166 [.pointer (some ⟨g,0,none⟩),.int .i64 tn] [.blk g 225 (bZ (fH ys A c A1 c1 A2 c2) l room clock met miss),.row (.slice A ys.length c) 5 1 ys.length (aC .u8 ys),.row (.slice A1 (dZ ys (nY ys)).length c1) 3 1 (dZ ys (nY ys)).length (aC .i64 (dZ ys (nY ys))),.row (.slice A2 (eJ ys (nY ys)).length c2) 3 1 (eJ ys (nY ys)).length (aC .i64 (eJ ys (nY ys)))] w
   (fun v S'=>∃k l' met' miss',k<room∧v=.pointer (some ⟨g,9+k*259,none⟩)∧aEl ys l room clock met miss tn k l' met' miss'∧S'=[.blk g 225 (bZ (fH ys A c A1 c1 A2 c2) l' room (clock+1) met' miss'),.row (.slice A ys.length c) 5 1 ys.length (aC .u8 ys),.row (.slice A1 (dZ ys (nY ys)).length c1) 3 1 (dZ ys (nY ys)).length (aC .i64 (dZ ys (nY ys))),.row (.slice A2 (eJ ys (nY ys)).length c2) 3 1 (eJ ys (nY ys)).length (aC .i64 (eJ ys (nY ys)))]):=by
 have hp:(fH ys A c A1 c1 A2 c2).length=9:=rfl;have i0:cZ (bZ (fH ys A c A1 c1 A2 c2) l room clock met miss) 8298 (.int .i64 clock):=⟨yJ hp hl h32 1⟩;have i1:=fun cl=>(⟨yJ hp hl h32 0⟩:cZ (bZ (fH ys A c A1 c1 A2 c2) l room cl met miss) 8297 (.int .i64 room));have i2:=fun cl=>(⟨yJ hp hl h32 2⟩:cZ (bZ (fH ys A c A1 c1 A2 c2) l room cl met miss) 8299 (.int .i64 met));have i3:=fun cl=>(⟨yJ hp hl h32 3⟩:cZ (bZ (fH ys A c A1 c1 A2 c2) l room cl met miss) 8300 (.int .i64 miss));have o0:jL (bZ (fH ys A c A1 c1 A2 c2) l room clock met miss) 8298 (.int .i64 (clock+1)) (bZ (fH ys A c A1 c1 A2 c2) l room (clock+1) met miss):=⟨aS7 hp hl h32 _,by rw[uC hp hl h32];decide⟩;have j1:=i1 (clock+1);have ft:=fun i (hi:i<32)=>aJp (pre:=fH ys A c A1 c1 A2 c2) (l:=l) (room:=room) (clock:=clock+1) (met:=met) (miss:=miss) hp hl (i:=i) oo;refine aJ func166 rfl ntmps166 rfl hown (fun n=>?_);simp only[aG];refine aB;refine bT (X:=Nat) (fun i=>i≤room∧∀j,j<i→(l.getD j default).t≠tn) (fun i=>[(0,.pointer (some ⟨g,0,none⟩)),(1,.int .i64 tn),(20,.int .i64 room),(21,.int .i64 i)])
  (fun _=>[.blk g 225 (bZ (fH ys A c A1 c1 A2 c2) l room (clock+1) met miss),.row (.slice A ys.length c) 5 1 ys.length (aC .u8 ys),.row (.slice A1 (dZ ys (nY ys)).length c1) 3 1 (dZ ys (nY ys)).length (aC .i64 (dZ ys (nY ys))),.row (.slice A2 (eJ ys (nY ys)).length c2) 3 1 (eJ ys (nY ys)).length (aC .i64 (eJ ys (nY ys)))]) (fun i=>room-i) 0 ⟨oo,fun j hj=>by omega⟩ ⟨rfl,rfl,rfl,rfl,trivial⟩ (aA.refl _) ?_
 rintro i ⟨hi,hj⟩;rcases Nat.lt_or_ge i room with h|h
 ·have g1:cZ (bZ (fH ys A c A1 c1 A2 c2) l room (clock+1) met miss) (9+i*259) (.int .i64 (l.getD i default).t):=⟨ft i oo⟩;have j2:=i2 (clock+1);have o1:jL (bZ (fH ys A c A1 c1 A2 c2) l room (clock+1) met miss) 8299 (.int .i64 (met+1)) (bZ (fH ys A c A1 c1 A2 c2) l room (clock+1) (met+1) miss):=⟨aS8 hp hl h32 _,by rw[uC hp hl h32];decide⟩;have j3:cZ (bZ (fH ys A c A1 c1 A2 c2) l room (clock+1) (met+1) miss) 8298 (.int .i64 (clock+1)):=⟨yJ hp hl h32 1⟩;have o2:jL (bZ (fH ys A c A1 c1 A2 c2) l room (clock+1) (met+1) miss) (9+i*259+258) (.int .i64 (clock+1)) (bZ (fH ys A c A1 c1 A2 c2) (l.set i { l.getD i default with u:=clock+1 }) room (clock+1) (met+1) miss):=⟨aJo hp hl oo _,by rw[uC hp hl h32];omega⟩;refine aB
  ·exact aK rfl rfl (aA.refl _) ⟨i,_,_,_,h,rfl,.inl ⟨oa,hj,rfl,rfl,rfl⟩,rfl⟩
  ·refine aN (i+1) ⟨oo,fun j hjj=>?_⟩ (by show room-(i+1)<room-i;omega) ⟨rfl,rfl,rfl,by simp[aH],trivial⟩ (aA.refl _);rcases Nat.lt_or_ge j i with h1|h1
   ·exact hj j h1
   ·rw[show j=i by omega];assumption
 ·obtain rfl:i=room:=oo;have j2:=i3 (clock+1);have o1:jL (bZ (fH ys A c A1 c1 A2 c2) l i (clock+1) met miss) 8300 (.int .i64 (miss+1)) (bZ (fH ys A c A1 c1 A2 c2) l i (clock+1) met (miss+1)):=⟨aS9 hp hl h32 _,by rw[uC hp hl h32];decide⟩;refine aB;refine lf rfl rfl rfl (fun w hw ho=>aXh g (fH ys A c A1 c1 A2 c2) l i (clock+1) met (miss+1) w ho hp hl h32 hr) ?_;rintro v S' ⟨k,hk,rfl,hold,rfl⟩;have p0:cZ (bZ (fH ys A c A1 c1 A2 c2) l i (clock+1) met (miss+1)) 0 (.slice A ys.length c):=⟨rfl⟩;have p1:mK (bZ (fH ys A c A1 c1 A2 c2) l i (clock+1) met (miss+1)) 1 8 [.int .i64 (wY ys:Nat),.int .i64 (hY ys:Nat),.slice none 0 0,.int .i64 (nW ys:Nat),.int .i32 (kN (dW ys 10 4)),.int .i32 (kN (dW ys 14 4)),.slice A1 (dZ ys (nY ys)).length c1,.slice A2 (eJ ys (nY ys)).length c2]:=⟨rfl,rfl⟩;refine aB;refine aAt _ (0::1::2::3::4::5::6::7::8::9::10::11::12::13::14::[]) (aA.refl _) bD od bD bD bD ?_;intro _;refine gP;refine lf rfl rfl rfl (S:=[]) (fun w hw ho=>aKe A c ys A1 A2 c1 c2 tn w ⟨Ro.row hw (aD.nil _) (by refine bV)⟩ ⟨Ro.row hw (aD.nil _) (by refine bV)⟩ ⟨Ro.row hw (aD.nil _) (by refine bV)⟩ hu hm hO hn) ?_;rintro v S' ⟨zs,Az,cz,code,T,rfl,rfl,hz⟩;refine kF (H':=.row (.slice Az zs.length cz) 121 1 zs.length (aC .i16 zs)::_) (.cons (.here _ _) (aA.appR T _)) ?_;obtain⟨rfl,hok⟩:code=0∧oO ys tn zs:=by
   rcases hz with hz | ⟨-,-,hz⟩
   ·exact hz
   ·obtain⟨z,hz2⟩:=hg tn hn;exact absurd hz2 (hz z)
  have p2:cZ (bZ (fH ys A c A1 c1 A2 c2) l i (clock+1) met (miss+1)) 8298 (.int .i64 (clock+1)):=⟨yJ hp hl h32 1⟩;obtain⟨sk,hsk⟩:∃s,l.getD k default=s:=⟨_,rfl⟩;have hmk:sk.z.length=256:=by rw[← hsk];exact hl _ (by rw[List.getD_eq_getElem?_getD,List.getElem?_eq_getElem oo];exact List.getElem_mem ..)
  have hlk:∀t w u:Int,gX (l.set k ⟨t,w,sk.z,u⟩):=fun t w u=>hl.set k hmk;have h3k:∀s:fB,(l.set k s).length=32:=fun s=>by rw[List.length_set];exact h32
  have hgk:=fun (s:fB)=>aD6 (l:=l) (i:=k) (s:=s) oo;have o3:jL (bZ (fH ys A c A1 c1 A2 c2) l i (clock+1) met (miss+1)) (9+k*259) (.int .i64 tn) (bZ (fH ys A c A1 c1 A2 c2) (l.set k ⟨tn,sk.w,sk.z,sk.u⟩) i (clock+1) met (miss+1)):=⟨by rw[aJn hp hl oo,hsk],by rw[uC hp hl h32];omega⟩;have o4:jL (bZ (fH ys A c A1 c1 A2 c2) (l.set k ⟨tn,sk.w,sk.z,sk.u⟩) i (clock+1) met (miss+1)) (9+k*259+258) (.int .i64 (clock+1)) (bZ (fH ys A c A1 c1 A2 c2) (l.set k ⟨tn,sk.w,sk.z,clock+1⟩) i (clock+1) met (miss+1)):=⟨by rw[aJo hp (hlk _ _ _) (by rw[h3k];omega),hgk,List.set_set],by rw[uC hp (hlk _ _ _) (h3k _)];omega⟩;have o5:jL (bZ (fH ys A c A1 c1 A2 c2) (l.set k ⟨tn,sk.w,sk.z,clock+1⟩) i (clock+1) met (miss+1)) (9+k*259+1) (.int .i64 ((dA (wY ys) (hY ys) (tX (wY ys) tn) (tY (wY ys) tn)).2.2.1:Nat)) (bZ (fH ys A c A1 c1 A2 c2) (l.set k ⟨tn,(eM (wY ys) (hY ys) tn:Nat),sk.z,clock+1⟩) i (clock+1) met (miss+1)):=⟨by rw[aSb hp (hlk _ _ _) (by rw[h3k];omega),hgk,List.set_set];rfl,by rw[uC hp (hlk _ _ _) (h3k _)];omega⟩;refine gP;refine aB;have hrg:=hO.rng;unfold rE at hrg;have hpg:=aDn (wY ys) (nT (wY ys) (hY ys)) tn hn;have hpl:=aA4 (wY ys) (nT (wY ys) (hY ys));have hn2:tn<nT (wY ys) (hY ys):=hn;have hbx:=aBv (W:=wY ys) (H:=hY ys) hn;obtain⟨hX,hY'⟩:=aEa (W:=wY ys) (H:=hY ys) (i:=tn) oo hn;refine aCj [38] 39 (0::1::2::3::4::5::6::7::8::9::10::11::12::13::14::15::16::17::18::19::20::21::22::23::24::25::26::27::28::29::30::31::32::33::34::35::36::37::38::[]) ?_;intro _;refine gP;refine lf rfl rfl rfl (S:=[]) (fun w hw ho=>aBn (wY ys) (hY ys) w oo) ?_;rintro v S' ⟨Ap,cp,rfl,rfl⟩;refine gP;simp only[hpg];refine bQ rfl rfl rfl (fun w _=>aAr (wY ys) (hY ys) (tX (wY ys) tn) (tY (wY ys) tn) w hX hY' oo) ?_;refine gP;refine aB;have hzl:0<zs.length∧zs.length≤256:=by rw[hok.1];exact⟨Nat.mul_pos oo oo,Nat.mul_le_mul (show _≤16 by omega) (show _≤16 by omega)⟩
  refine aW3 rfl rfl ⟨hzl.1,hzl.2,?_⟩ rfl ?_
  ·rw[uC hp (hlk _ _ _) (h3k _)];omega
  rw[aSc hp (hlk _ _ _) (by rw[h3k];omega) hzl.2,hgk,List.set_set];refine aB;subst hsk;refine aK rfl rfl ?_ ⟨k,_,_,_,hk,rfl,.inr ⟨hj,hold,⟨zs,hok,rfl⟩,rfl,rfl⟩,rfl⟩;exact aA.au
theorem aKf{W H:Nat}{f:List Int}(hf:f.length=W*H){x y:Nat}(hx:x<W)(hy:y<H):y/16*bG W+x/16<nT W H∧(y%16+1)*eM W H (y/16*bG W+x/16)≤(kM W H f (y/16*bG W+x/16)).length∧x%16<eM W H (y/16*bG W+x/16)∧(kM W H f (y/16*bG W+x/16)).getD (y%16*eM W H (y/16*bG W+x/16)+x%16) 0=f.getD (y*W+x) 0:=by
 have hi:x/16<bG W:=by unfold bG;omega
 have hk:y/16<bG H:=by unfold bG;omega
 have hn:y/16*bG W+x/16<nT W H:=by have h5:(y/16+1)*bG W≤bG H*bG W:=Nat.mul_le_mul_right _ hk;rw[Nat.add_mul,Nat.one_mul,Nat.mul_comm (bG H)]at h5;unfold nT;omega
 have hX:=(tXY (W:=W) (y:=y/16) hi).1;have hY:=(tXY (W:=W) (y:=y/16) hi).2;have hb:=aCh (W:=W) (H:=H) hi hk;have ew:eM W H (y/16*bG W+x/16)=min 16 (W-16*(x/16)):=by unfold eM;rw[hX,hY,hb]
 have eh:pH W H (y/16*bG W+x/16)=min 16 (H-16*(y/16)):=by unfold pH;rw[hX,hY,hb]
 have hl:=aCw (W:=W) (H:=H) (i:=y/16*bG W+x/16) hf;have hr:y%16<pH W H (y/16*bG W+x/16):=by rw[eh];omega
 refine⟨hn,?_,by rw[ew];omega,?_⟩
 ·rw[hl,Nat.mul_comm (eM ..)];exact Nat.mul_le_mul_right _ hr
 have hbx:=wO W H (x/16:Nat) (y/16:Nat);rw[hb]at hbx;simp only at hbx;have hp:=aFi (r:=y%16) hf hbx.1 hbx.2.1 oo _ (by omega:y%16<min 16 (H-16*(y/16))) (Nat.le_refl _);have ec:kM W H f (y/16*bG W+x/16)=mA f W (16*(x/16)) (16*(y/16)) (min 16 (W-16*(x/16))) (min 16 (H-16*(y/16))):=by unfold kM rW;rw[hX,hY,hb]
 rw[ec,ew];have hxm:x%16<min 16 (W-16*(x/16)):=oo;have e1:=congrArg (fun l=>l.getD (x%16) 0) hp;simp only[List.getD_eq_getElem?_getD,List.getElem?_take_of_lt hxm,List.getElem?_drop]at e1;rw[List.getD_eq_getElem?_getD,e1,yZ,List.getElem?_take_of_lt hxm,List.getElem?_drop,show 16*(y/16)+y%16=y by omega,show y*W+16*(x/16)+x%16=y*W+x by omega,List.getD_eq_getElem?_getD]
theorem aUg{l:List Int}{m i:Nat}(h:i<m):(l.take m).getD i 0=l.getD i 0:=by rw[List.getD_eq_getElem?_getD,List.getD_eq_getElem?_getD,List.getElem?_take_of_lt h]
structure eT where
 g:Nat
 ys:List Int
 A:Option Addr
 c:Nat
 A1:Option Addr
 c1:Nat
 A2:Option Addr
 c2:Nat
 room:Nat
structure dU where
 l:List fB
 clock:Int
 met:Int
 miss:Int
@[reducible] def eT.H(K:eT)(s:dU):List HE:=[.blk K.g 225 (bZ (fH K.ys K.A K.c K.A1 K.c1 K.A2 K.c2) s.l K.room s.clock s.met s.miss),.row (.slice K.A K.ys.length K.c) 5 1 K.ys.length (aC .u8 K.ys),.row (.slice K.A1 (dZ K.ys (nY K.ys)).length K.c1) 3 1 (dZ K.ys (nY K.ys)).length (aC .i64 (dZ K.ys (nY K.ys))),.row (.slice K.A2 (eJ K.ys (nY K.ys)).length K.c2) 3 1 (eJ K.ys (nY K.ys)).length (aC .i64 (eJ K.ys (nY K.ys)))]
@[reducible] def eT.HC(K:eT)(s:dU)(T:List HE):List HE:=.blk K.g 225 (bZ (fH K.ys K.A K.c K.A1 K.c1 K.A2 K.c2) s.l K.room s.clock s.met s.miss)::.row (.slice K.A K.ys.length K.c) 5 1 K.ys.length (aC .u8 K.ys)::.row (.slice K.A1 (dZ K.ys (nY K.ys)).length K.c1) 3 1 (dZ K.ys (nY K.ys)).length (aC .i64 (dZ K.ys (nY K.ys)))::.row (.slice K.A2 (eJ K.ys (nY K.ys)).length K.c2) 3 1 (eJ K.ys (nY K.ys)).length (aC .i64 (eJ K.ys (nY K.ys)))::T
def aEt(ys f:List Int)(n:Nat)(s:fB):Prop:=s.t=n∧s.w=(eM (wY ys) (hY ys) n:Nat)∧s.z.take (kM (wY ys) (hY ys) f n).length=kM (wY ys) (hY ys) f n
def aIu(ys f:List Int)(s:fB):Prop:=0≤s.t→∃n,n<nY ys∧aEt ys f n s
structure kJ(ys f:List Int)(room:Nat):Prop where
 u8:dV ys
 len:ys.length<100000000
 op:yC ys
 good:zM ys f
 room:1≤room∧room≤32
structure cV(ys f:List Int)(room:Nat)(s:dU)(b:Int):Prop where
 len:s.l.length=32
 slts:gX s.l
 sl:∀k,k<room→aIu ys f (s.l.getD k default)
 clock:0≤s.clock∧s.clock≤b
 met:0≤s.met∧s.met≤b
 miss:0≤s.miss∧s.miss≤b
theorem cV.mono{ys f:List Int}{room:Nat}{s:dU}{b c:Int}(h:cV ys f room s b)(hb:b≤c):cV ys f room s c:=⟨h.len,h.slts,h.sl,⟨h.clock.1,by have:=h.clock.2;omega⟩,⟨h.met.1,by have:=h.met.2;omega⟩,⟨h.miss.1,by have:=h.miss.2;omega⟩⟩
theorem aL3{ys f:List Int}{room n k:Nat}{s s':dU}{b:Int}(hF:kJ ys f room)(h:cV ys f room s b)(hn:n<nY ys)(hk:k<room)(hg:aEl ys s.l room s.clock s.met s.miss n k s'.l s'.met s'.miss)(hc:s'.clock=s.clock+1):cV ys f room s' (b+1)∧aEt ys f n (s'.l.getD k default):=by
 have hk32:k<s.l.length:=by have:=h.len;have:=hF.room;omega
 obtain⟨c1,c2⟩:=h.clock;obtain⟨c3,c4⟩:=h.met;obtain⟨c5,c6⟩:=h.miss;have key:∀sl:fB,sl.z.length=256→aIu ys f sl→s'.l=s.l.set k sl→(s'.met=s.met+1∧s'.miss=s.miss∨s'.met=s.met∧s'.miss=s.miss+1)→cV ys f room s' (b+1)∧s'.l.getD k default=sl:=by
  intro sl hz hsl e hm;refine⟨⟨by rw[e,List.length_set,h.len],by rw[e];exact h.slts.set k hz,fun j hj=>?_,oo,oo,oo⟩,by rw[e,aD6 hk32]⟩;rw[e];by_cases hjk:j=k
  ·subst hjk;rw[aD6 hk32];exact hsl
  ·have:(s.l.set k sl).getD j default=s.l.getD j default:=by rw[List.getD_eq_getElem?_getD,List.getD_eq_getElem?_getD,List.getElem?_set_ne (fun e=>hjk e.symm)]
   rw[this];exact h.sl j hj
 have hz0:(s.l.getD k default).z.length=256:=h.slts _ (by rw[List.getD_eq_getElem?_getD,List.getElem?_eq_getElem hk32];exact List.getElem_mem ..);rcases hg with⟨h1,-,h3,h4,h5⟩ | ⟨-,-,⟨zs,h1,h2⟩,h4,h5⟩
 ·obtain⟨m,hm,hsl⟩:=h.sl k hk oo;have hmn:m=n:=by have:=hsl.1;omega
  subst hmn;have:=key { s.l.getD k default with u:=s.clock+1 } hz0 (fun _=>⟨m,hm,hsl⟩) h3 (.inl ⟨h4,h5⟩);exact⟨this.1,by rw[this.2];exact hsl⟩
 ·obtain rfl:=oO.one hn h1 (hF.good.til hn);have hl:(kM (wY ys) (hY ys) f n).length≤256:=aCv hF.good.2.1;have his:aEt ys f n ⟨n,(eM (wY ys) (hY ys) n:Nat),kM (wY ys) (hY ys) f n++(s.l.getD k default).z.drop (kM (wY ys) (hY ys) f n).length,s.clock+1⟩:=⟨rfl,rfl,aE⟩;have:=key _ (by simp only[List.length_append,List.length_drop];omega) (fun _=>⟨n,hn,his⟩) h2 (.inr ⟨h4,h5⟩);exact⟨this.1,by rw[this.2];exact his⟩
def aEn(ys:List Int)(room:Nat)(s:dU)(x y:Int)(s':dU):Prop :=
 ((x<0∨y<0∨(wY ys:Int)≤x∨(hY ys:Int)≤y)∧s'=s)∨(¬(x<0∨y<0∨(wY ys:Int)≤x∨(hY ys:Int)≤y)∧∃k,k<room∧aEl ys s.l room s.clock s.met s.miss (y.toNat/16*bG (wY ys)+x.toNat/16) k s'.l s'.met s'.miss∧s'.clock=s.clock+1)
theorem aEn.ok{ys f:List Int}{room:Nat}{s s':dU}{x y b:Int}(hg:aEn ys room s x y s')(hF:kJ ys f room)(h:cV ys f room s b):cV ys f room s' (b+1):=by
 rcases hg with⟨-,rfl⟩ | ⟨ho,k,hk,h1,h2⟩
 ·exact h.mono oo
 ·exact(aL3 hF h (aKf (f:=f) hF.good.2.1 oo oo).1 hk h1 h2).1
theorem aLc(K:eT)(s:dU)(f:List Int)(x y b:Int)(w:World)(hown:aZ (K.H s) w)(hF:kJ K.ys f K.room)(h:cV K.ys f K.room s b)(hb:b≤1000000000000000000):
  aF prog 115 [.pointer (some ⟨K.g,0,none⟩),.int .i64 x,.int .i64 y] (K.H s) w (fun v S'=>∃s',v=.tuple #[.int .i16 (jP (wY K.ys) (hY K.ys) f x y).1,.int .i64 (jP (wY K.ys) (hY K.ys) f x y).2]∧aEn K.ys K.room s x y s'∧S'=K.H s'):=by
 obtain⟨g,ys,A,c,A1,c1,A2,c2,room⟩:=K;obtain⟨l,clock,met,miss⟩:=s;have hrg:=hF.op.rng;unfold rE at hrg;have hrm:=hF.room;have hp:(fH ys A c A1 c1 A2 c2).length=9:=rfl;obtain⟨e1,-,-,e3,e4,e5⟩:=id h;simp only at e1 e3 e4 e5 hrm hrg ⊢ hF h;have q0:mK (bZ (fH ys A c A1 c1 A2 c2) l room clock met miss) 1 3 [.int .i64 (wY ys:Nat),.int .i64 (hY ys:Nat),.slice none 0 0]:=⟨rfl,rfl⟩;refine aJ func115 rfl ntmps115 rfl hown (fun n=>?_);simp only[aG];by_cases ho:x<0∨y<0∨(wY ys:Int)≤x∨(hY ys:Int)≤y
 ·have e:jP (wY ys) (hY ys) f x y=(0,9):=if_pos ho;rw[e];refine aB;all_goals first
   | exact cM rfl rfl rfl aA.au ⟨_,rfl,.inl ⟨ho,rfl⟩,rfl⟩
   | (exfalso;omega)
 obtain⟨X,rfl⟩:∃X:Nat,x=X:=⟨x.toNat,oo⟩;obtain⟨Y,rfl⟩:∃Y:Nat,y=Y:=⟨y.toNat,oo⟩;have hXY:X<wY ys∧Y<hY ys:=oo;obtain⟨hn,hc1,hc2,hc3⟩:=aKf hF.good.2.1 hXY.1 hXY.2;have hnt:=xH (W:=wY ys) (H:=hY ys) oo;have hcm:(Y:Int)/16*((bG (wY ys):Nat):Int)=((Y/16*bG (wY ys):Nat):Int):=by push_cast;rfl
 refine aB;refine bQ (v:=.int .i64 (bG (wY ys):Nat)) rfl rfl rfl (fun w _=>yK (wY ys) w oo) ?_;refine aB;refine eX 44 _ rfl (congrArg (Value.int .i64) (show (Y:Int)/16*(bG (wY ys):Nat)+(X:Int)/16=((Y/16*bG (wY ys)+X/16:Nat):Int) by push_cast;rfl)) ?_;refine lf rfl rfl rfl (S:=eT.H ⟨g,ys,A,c,A1,c1,A2,c2,room⟩ ⟨l,clock,met,miss⟩) (fun w hw ho=>aUk g ys A A1 A2 c c1 c2 l room (Y/16*bG (wY ys)+X/16) clock met miss w ho h.slts e1 hrm oo hF.u8 hF.len hF.op hn (fun i hi=>⟨_,hF.good.til hi⟩)) ?_;rintro v S' ⟨k,l',met',miss',hk,rfl,hg,rfl⟩;obtain⟨g1,g2⟩:=aL3 (s':=⟨l',clock+1,met',miss'⟩) hF h hn hk hg rfl;have hkl:k<l'.length:=by have:l'.length=32:=g1.len;omega
 have gw:(l'.getD k default).w=_:=g2.2.1;have gz:(l'.getD k default).z.take _=_:=g2.2.2;have iw:cZ (bZ (fH ys A c A1 c1 A2 c2) l' room (clock+1) met' miss') (9+k*259+1) (.int .i64 (eM (wY ys) (hY ys) (Y/16*bG (wY ys)+X/16):Nat)):=⟨by rw[aSe hp g1.slts hkl,gw]⟩;have hzl:=aCv (W:=wY ys) (H:=hY ys) (z:=f) (i:=Y/16*bG (wY ys)+X/16) hF.good.2.1;rw[Nat.add_mul,Nat.one_mul]at hc1;have iz:cZ (bZ (fH ys A c A1 c1 A2 c2) l' room (clock+1) met' miss') (9+k*259+2+(Y%16*eM (wY ys) (hY ys) (Y/16*bG (wY ys)+X/16)+X%16)) (.int .i16 (f.getD (Y*wY ys+X) 0)):=⟨by rw[Nat.add_assoc (9+k*259) 2,aSf hp g1.slts hkl oo,← hc3,← gz,aUg oo]⟩;have hcz:(Y:Int)%16*((eM (wY ys) (hY ys) (Y/16*bG (wY ys)+X/16):Nat):Int)=((Y%16*eM (wY ys) (hY ys) (Y/16*bG (wY ys)+X/16):Nat):Int):=by push_cast;rfl
 refine aB;refine kC (0::1::2::3::4::5::6::7::8::9::10::11::12::13::14::15::[]) ?_;intro _;refine gP;have e:jP (wY ys) (hY ys) f X Y=if f.getD (Y*wY ys+X) 0 = -32768 then (0,8)else (f.getD (Y*wY ys+X) 0,0):=by
  have e0:((Y:Int)*(wY ys:Int)+(X:Int)).toNat=Y*wY ys+X:=by rw[← Int.natCast_mul,← Int.natCast_add,Int.toNat_natCast]
  unfold jP;rw[if_neg ho,e0]
 rw[e];refine eX 56 _ rfl (congrArg (Value.int .i64) (show (Y:Int)%16*((eM (wY ys) (hY ys) (Y/16*bG (wY ys)+X/16):Nat):Int)+(X:Int)%16=((Y%16*eM (wY ys) (hY ys) (Y/16*bG (wY ys)+X/16)+X%16:Nat):Int) by push_cast;rfl)) ?_;refine gP;all_goals first
  | exact cM rfl rfl rfl aA.au ⟨⟨l',clock+1,met',miss'⟩,by rw[if_pos oa],.inr ⟨ho,k,hk,hg,rfl⟩,rfl⟩
  | exact cM rfl rfl rfl aA.au ⟨⟨l',clock+1,met',miss'⟩,by rw[if_neg oa],.inr ⟨ho,k,hk,hg,rfl⟩,rfl⟩
def wG:List fB:=List.replicate 32 ⟨0,0,List.replicate 256 0,0⟩
@[reducible] def aC3:List Value:=[.int .i64 0,.int .i64 0,.slice none 0 0,.int .i64 0,.int .i32 0,.int .i32 0,.slice none 0 0,.slice none 0 0]
def zC:Value:=.agg (bZ (.slice none 0 0::aC3) wG 0 0 0 0).toArray
set_option maxRecDepth 100000 in
instance:bH prog 225 8301 17312 zC:=⟨Tryz.t225,by kernel_rfl,by kernel_rfl,rfl,rfl⟩
instance:ZC zC (bZ (.slice none 0 0::aC3) wG 0 0 0 0):=⟨rfl⟩
set_option maxRecDepth 10000 in
theorem aC2:gX wG∧wG.length=32:=⟨fun s hs=>by rw[List.eq_of_mem_replicate hs];exact List.length_replicate ..,List.length_replicate ..⟩
instance {pre vs o:List Value}{l:List fB}{room clock met miss:Int}{q:Nat}[h:jK pre q vs o]:jK (bZ pre l room clock met miss) q vs (bZ o l room clock met miss):=⟨by obtain⟨h1,h2⟩:=h.h;unfold bZ;refine⟨?_,by rw[List.length_append];omega⟩;rw[List.take_append_of_le_length oo,List.drop_append_of_le_length oo,← List.append_assoc,h1]⟩
theorem aUf{l:List fB}{i:Nat}(h:i<l.length):l.getD i default∈l:=by rw[List.getD_eq_getElem?_getD,List.getElem?_eq_getElem h];exact List.getElem_mem ..
theorem aSa{pre:List Value}{l:List fB}{room clock met miss:Int}(hp:pre.length=9)(hl:gX l)(h32:l.length=32)(x:Int):(bZ pre l room clock met miss).set 8297 (.int .i64 x)=bZ pre l x clock met miss:=by have hs:=uO hl;unfold bZ;rw[List.set_append_right _ _ oo,List.set_append_right _ _ oo,hp,hs,h32];rfl
instance (v:Value)(x:Int):jK (bZ (v::aC3) wG 0 0 0 0) 8297 [.int .i64 x] (bZ (v::aC3) wG x 0 0 0):=by have:=aY1 (cs:=bZ (v::aC3) wG 0 0 0 0) (q:=8297) (.int .i64 x) (by rw[uC rfl aC2.1 aC2.2];decide);rw[aSa rfl aC2.1 aC2.2]at this;exact this
theorem aSm(K:eT)(s:dU)(w:World)(hown:aZ (K.H s) w):
  aF prog 165 [.pointer (some ⟨K.g,0,none⟩)] (K.H s) w (fun v S'=>v=.agg #[.int .i64 (wY K.ys:Nat),.int .i64 (hY K.ys:Nat),.slice none 0 0,.int .i64 (nW K.ys:Nat),.int .i32 (kN (dW K.ys 10 4)),.int .i32 (kN (dW K.ys 14 4))]∧S'=K.H s):=by
 obtain⟨g,ys,A,c,A1,c1,A2,c2,room⟩:=K;obtain⟨l,clock,met,miss⟩:=s;simp only;have q0:mK (bZ (fH ys A c A1 c1 A2 c2) l room clock met miss) 1 6 [.int .i64 (wY ys:Nat),.int .i64 (hY ys:Nat),.slice none 0 0,.int .i64 (nW ys:Nat),.int .i32 (kN (dW ys 10 4)),.int .i32 (kN (dW ys 14 4))]:=⟨rfl,rfl⟩;refine aJ func165 rfl ntmps165 rfl hown (fun n=>?_);simp only[aG];refine aB;refine eD (S':=eT.H ⟨g,ys,A,c,A1,c1,A2,c2,room⟩ ⟨l,clock,met,miss⟩) aA.au ?_;refine cY;exact⟨rfl,rfl⟩
def oD:Nat→List fB
 | 0=>wG
 | i+1=>(oD i).set i { (oD i).getD i default with t:=-1 }
theorem aBj:∀i,gX (oD i)∧(oD i).length=32
 | 0=>aC2
 | i+1=>by
  obtain⟨h1,h2⟩:=aBj i;refine⟨?_,by rw[oD,List.length_set,h2]⟩;rw[oD];rcases Nat.lt_or_ge i 32 with h|h
  ·exact h1.set i (h1 ((oD i).getD i default) (aUf oo))
  ·rw[List.set_eq_of_length_le oo];exact h1
theorem aMm:∀i,i≤32→∀k,k<i→((oD i).getD k default).t = -1
 | 0,_,k,h=>by omega
 | i+1,hi,k,h=>by
  have h2:=(aBj i).2;rw[oD];by_cases e:k=i
  ·subst e;rw[aD6 oo]
  ·have:((oD i).set i { (oD i).getD i default with t:=-1 }).getD k default=(oD i).getD k default:=by rw[List.getD_eq_getElem?_getD,List.getElem?_set_ne (fun x=>e x.symm),List.getD_eq_getElem?_getD]
   rw[this];exact aMm i oo k oo
def rD(room:Nat):dU:=⟨oD room,0,0,0⟩
theorem aMn{ys f:List Int}{room:Nat}(hr:room≤32):cV ys f room (rD room) 0 :=
 ⟨(aBj room).2,(aBj room).1,fun k hk h=>by rw[show ((rD room).l.getD k default).t = -1 from aMm room hr k hk]at h;omega,⟨Int.le_refl _,Int.le_refl _⟩,⟨Int.le_refl _,Int.le_refl _⟩,⟨Int.le_refl _,Int.le_refl _⟩⟩
def aQ8(ys:List Int)(room:Int)(v:Value)(S':List HE):Prop :=
 (∃code:Int,code≠0∧v=.tuple #[.pointer none,.int .i64 code]∧S'=[]∧(((room<4∨32<room)∧code=12)∨(¬(room<4∨32<room)∧pI ys code))) ∨
 (¬(room<4∨32<room)∧pI ys 0∧∃K:eT,K.ys=ys∧(K.room:Int)=room∧v=.tuple #[.pointer (some ⟨K.g,0,none⟩),.int .i64 0]∧S'=K.H (rD K.room))
theorem aMo(A:Option Addr)(c:Nat)(ys:List Int)(room:Int)(w:World)(hr:bF w (aV []) A ys.length c 1 (aC .u8 ys))(hu:dV ys)(hm:ys.length<100000000)(hrm:aP .i64 room):
  aF prog 53 [.slice A ys.length c,.int .i64 room] [] w (aQ8 ys room):=by
 refine aJ func53 rfl ntmps53 rfl ⟨aE,.nil⟩ (fun n=>?_);simp only[aG];by_cases ho:room<4∨32<room
 ·refine aB;all_goals first
   | exact cM rfl rfl rfl (.nil _) (.inl ⟨12,od,rfl,rfl,.inl ⟨ho,rfl⟩⟩)
   | (exfalso;omega)
 obtain⟨R,rfl⟩:∃R:Nat,room=R:=⟨room.toNat,oo⟩;refine aB;refine lf rfl rfl rfl (S:=[]) (fun w hw ho=>aUi A c ys w ⟨hr.h.go hw (aD.nil _)⟩ hu hm) ?_;rintro v S' hget;rcases hget with⟨code,hne,hgc2,rfl,rfl⟩ | ⟨hgc,g,Ag,cg,hgl,hgg,rfl,rfl⟩
 ·refine aB;exact cM rfl rfl rfl (.nil _) (.inl ⟨code,hne,rfl,rfl,.inr ⟨ho,hgc2⟩⟩)
 refine aB;rename_i b0 b1 A' c' gC;refine lf rfl rfl rfl (S:=[]) (fun w hw ho=>aN0 A' c' ys w ⟨Ro.row hw (aD.nil _) (by refine bV)⟩ hu hm) ?_;have hoc:mG ys=0:=by
  rcases hgc with⟨h,-⟩ | ⟨h,-⟩ | ⟨h,-⟩
  ·exact absurd rfl h
  ·exact h
  ·exact h
 rintro v S' (⟨-,A1,c1,A2,c2,rfl,rfl⟩ | ⟨h,-⟩);case inr=>exact absurd hoc h
 refine aB;refine bT (X:=Nat) (fun i=>i≤R) (fun i=>[(8,.pointer (some ⟨gC,0,none⟩)),(41,.int .i64 R),(42,.int .i64 i)]) (fun i=>eT.H ⟨gC,ys,A',c',A1,c1,A2,c2,R⟩ ⟨oD i,0,0,0⟩) (fun i=>R-i) 0 oo ⟨rfl,rfl,rfl,trivial⟩ (show aA (eT.H ⟨gC,ys,A',c',A1,c1,A2,c2,R⟩ ⟨wG,0,0,0⟩) _ from aA.au) ?_;intro i hi;obtain⟨n1,n2⟩:=aBj i;rcases Nat.lt_or_ge i R with h|h
 ·have o1:jL (bZ (fH ys A' c' A1 c1 A2 c2) (oD i) R 0 0 0) (9+i*259) (.int .i64 (-1)) (bZ (fH ys A' c' A1 c1 A2 c2) (oD (i+1)) R 0 0 0):=⟨aJn rfl n1 oo _,by rw[uC rfl n1 n2];omega⟩;refine aB;exact aN (i+1) h (by show R-(i+1)<R-i;omega) ⟨rfl,rfl,by simp[aH],trivial⟩ aA.au
 ·obtain rfl:i=R:=oo;refine aB;exact cM rfl rfl rfl (show aA (eT.H ⟨gC,ys,A',c',A1,c1,A2,c2,i⟩ ⟨oD i,0,0,0⟩) _ from aA.au) (.inr ⟨ho,hgc,⟨gC,ys,A',c',A1,c1,A2,c2,i⟩,rfl,rfl,rfl,rfl⟩)
theorem aF9{W H cell:Nat}{ox oy:Int}{f:List Int}{R:Nat}(hW:2≤W∧W≤256∧2≤H∧H≤256∧1≤cell∧cell≤1000)(hz:f.length=W*H)(hi:dK f)(hR:1≤R∧R≤32):kJ (fR W H cell ox oy f) f R :=
 ⟨aSk W H cell ox oy f,by have:=aSl (cell:=cell) (ox:=ox) (oy:=oy) (by omega:W≤256∧H≤256) hz;omega,aJx hW hz,aJw hW hz hi,hR⟩
