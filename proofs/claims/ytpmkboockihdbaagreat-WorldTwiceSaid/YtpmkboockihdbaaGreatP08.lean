import Derived.Test.YtpmkboockihdbaaGreatRows
import Derived.WalkKit
import Derived.WalkSpells
import Derived.Lib.Hide
import Derived.Deep.Draws
import Derived.Deep.QuietTactic
import Derived.Test.YtpmkboockihdbaaGreatP05
import Derived.Test.YtpmkboockihdbaaGreatP07
set_option maxHeartbeats 512000000
set_option maxRecDepth 4000
set_option linter.unusedVariables false
set_option linter.unusedSimpArgs false
namespace Go.Proofs.YtpmkboockihdbaaGreat
open Go.RowKit
def tQ(cs:Array Value)(o:Nat)(xs:List Value):Array Value :=
 (cs.toList.take o++xs++cs.toList.drop (o+xs.length)).toArray
theorem bB4{cs:Array Value}{o:Nat}{xs:List Value}(h:o+xs.length≤cs.size):(tQ cs o xs).size=cs.size:=by simp[tQ];omega
theorem aE4{cs:Array Value}{o:Nat}{xs:List Value}(h:o+xs.length≤cs.size){k:Nat}(hk:k<xs.length):(tQ cs o xs)[o+k]? = xs[k]?:=by
 have ho:(cs.toList.take o).length=o:=by simp;omega
 simp only[tQ,List.getElem?_toArray,List.append_assoc];rw[List.getElem?_append_right oo,ho,Nat.add_sub_cancel_left,List.getElem?_append_left hk]
theorem aOo{cs:Array Value}{o:Nat}{xs:List Value}(h:o+xs.length≤cs.size){j:Nat}(hj:j<o∨o+xs.length≤j):(tQ cs o xs)[j]? = cs[j]?:=by
 have ho:(cs.toList.take o).length=o:=by simp;omega
 simp only[tQ,List.getElem?_toArray,List.append_assoc];rcases hj with hj|hj
 ·rw[List.getElem?_append_left oo,List.getElem?_take_of_lt hj,Array.getElem?_toList]
 ·rw[List.getElem?_append_right oo,ho,List.getElem?_append_right oo,List.getElem?_drop,Array.getElem?_toList];congr 1;omega
theorem bB3{cs:Array Value}{o:Nat}{xs:List Value}(h:o+xs.length≤cs.size){k:Nat}(hk:k<xs.length)(u:Value):
  (tQ cs o xs).setIfInBounds (o+k) u=tQ cs o (xs.set k u):=by
 apply Array.ext_getElem?;intro j;have hl:(xs.set k u).length=xs.length:=List.length_set ..;rw[Array.getElem?_setIfInBounds];by_cases hj:o+k=j
 ·subst hj;rw[if_pos rfl,if_pos (by rw[bB4 h];omega),aE4 oo oo,List.getElem?_set_self oo]
 ·rw[if_neg hj];by_cases hin:o≤j∧j<o+xs.length
  ·obtain⟨i,rfl⟩:∃i,j=o+i:=⟨j-o,oo⟩;rw[aE4 h oo,aE4 oo oo,List.getElem?_set_ne oo]
  ·rw[aOo h oo,aOo oo oo]
def dF(w:World)(g:Nat)(t:TypeId)(cs:Array Value)(o:Nat)(xs:List Value):Prop :=
 w.heap[g]? = some (.cells (tQ cs o xs) t (0,0))∧o+xs.length≤cs.size
section
variable {w w':World} {g:Nat} {t:TypeId} {cs:Array Value} {o:Nat} {xs:List Value}
theorem dF.lt(h:dF w g t cs o xs):g<w.heap.size:=by
 rcases Nat.lt_or_ge g w.heap.size with hlt|hge
 ·exact hlt
 ·have:=h.1;rw[Array.getElem?_eq_none hge]at this;cases this
theorem dF.cell(h:dF w g t cs o xs){k:Nat}(hk:k<xs.length):w.cell? ⟨g,o+k,none⟩=xs[k]? :=
 (cell_of_row w g (o+k) _ t (0,0) h.1).trans (aE4 h.2 hk)
theorem dF.cell_is(h:dF w g t cs o xs){k:Nat}{v:Value}(hk:xs[k]? = some v):w.cell? ⟨g,o+k,none⟩=some v:=by have:k<xs.length:=(List.getElem?_eq_some_iff.1 hk).1;rw[h.cell this,hk]
theorem dF.frozen(h:dF w g t cs o xs)(i:Nat):w.frozen? ⟨g,i,none⟩=false:=by have:=h.1;simp[World.frozen?,this]
theorem dF.drew(h:dF w g t cs o xs):dF w.drew g t cs o xs:=h
theorem dF.drewN(h:dF w g t cs o xs)(n:Nat):dF (w.drewN n) g t cs o xs:=h
theorem dF.alloc(h:dF w g t cs o xs)(ob:Obj):dF (w.alloc ob) g t cs o xs:=⟨(Below.heap_alloc w ob g h.lt).trans h.1,h.2⟩
theorem dF.set_(h:dF w g t cs o xs){k:Nat}(hk:k<xs.length)(u:Value):dF (w.setCell ⟨g,o+k,none⟩ u) g t cs o (xs.set k u):=by refine⟨?_,by rw[List.length_set];exact h.2⟩;have:=h.1;simp[World.setCell,Array.getElem?_modify,this];exact bB3 h.2 hk u
end
theorem aXl{a w:World}{row:Option Nat}(h:a.grownBy w row)(n:Nat):a.grownBy (w.drewN n) row:=⟨h.os,h.tape,h.output,h.size,h.block⟩
theorem aXk{a w:World}{row:Option Nat}(h:a.grownBy w row):a.grownBy w.drew row:=⟨h.os,h.tape,h.output,h.size,h.block⟩
theorem aXj{a w:World}{row:Option Nat}(h:a.grownBy w row)(o:Obj):a.grownBy (w.alloc o) row :=
 ⟨h.os,h.tape,h.output,Nat.le_trans h.size aE,fun i hi hne=>(Below.heap_alloc w o i (Nat.lt_of_lt_of_le hi h.size)).trans (h.block i hi hne)⟩
theorem aXm{a w:World}{g:Nat}(h:a.grownBy w (some g)){p:Addr}(hp:p.block=g∨a.heap.size≤p.block)(u:Value):a.grownBy (w.setCell p u) (some g) :=
 ⟨h.os,h.tape,h.output,by simpa [World.setCell] using h.size,fun i hi hne=>(Below.heap_setCell w p u i (by
  rintro rfl;rcases hp with hp|hp
  ·exact hne (by rw[hp])
  ·omega)).trans (h.block i hi hne)⟩
theorem aMy{a b c:World}{row:Option Nat}(h:a.grownBy b row)(k:b.grownBy c row):a.grownBy c row :=
 ⟨k.os.trans h.os,k.tape.trans h.tape,k.output.trans h.output,Nat.le_trans h.size k.size,fun i hi hne=>(k.block i (Nat.lt_of_lt_of_le hi h.size) hne).trans (h.block i hi hne)⟩
def cR(w0:World)(g:Nat)(t:TypeId)(cs:Array Value)(o:Nat)(xs:List Value)(w:World):Prop :=
 dF w g t cs o xs∧w0.grownBy w (some g)
section
variable {w0 w w':World} {g:Nat} {t:TypeId} {cs:Array Value} {o:Nat} {xs:List Value}
theorem cR.start(h:dF w g t cs o xs):cR w g t cs o xs w:=⟨h,World.grownBy.refl w _⟩
theorem cR.drew(h:cR w0 g t cs o xs w):cR w0 g t cs o xs w.drew:=⟨h.1.drew,aXk h.2⟩
theorem cR.drewN(h:cR w0 g t cs o xs w)(n:Nat):cR w0 g t cs o xs (w.drewN n):=⟨h.1.drewN n,aXl h.2 n⟩
theorem cR.alloc(h:cR w0 g t cs o xs w)(ob:Obj):cR w0 g t cs o xs (w.alloc ob):=⟨h.1.alloc ob,aXj h.2 ob⟩
theorem cR.set_(h:cR w0 g t cs o xs w)(k:Nat)(u:Value)(hk:k<xs.length):cR w0 g t cs o (xs.set k u) (w.setCell ⟨g,o+k,none⟩ u) :=
 ⟨h.1.set_ hk u,aXm (p:=⟨g,o+k,none⟩) h.2 (.inl rfl) u⟩
theorem cR.trans{ys:List Value}(h:cR w0 g t cs o xs w)(k:cR w g t cs o ys w'):cR w0 g t cs o ys w':=⟨k.1,aMy h.2 k.2⟩
end
theorem aHg{P:Program}{f:FuncId}{args:Array Value}{w:World}{n:Nat}{v:Value}
  (h:Calls P f args (w.drewN n) fun e w'=>e=.returned v∧w.drewN n=w'):Calls P f args (w.drewN n) fun e w''=>e=.returned v∧∃m,w''=w.drewN m :=
 h.mono fun _ _ ⟨he,hm⟩=>⟨he,n,hm.symm⟩
theorem aYe(l:List Bool):dV (dT l):=by intro x hx;unfold dT at hx;obtain⟨k,-,rfl⟩:=List.mem_map.1 hx;have:=aBm l k;omega
theorem aJ7:∀(x:Fin 256) (r:Fin 8),(bits .and .u8 ((x:Nat):Int) (128/2^(r:Nat)) != 0)=((x:Nat)/2^(7-(r:Nat))%2==1):=by decide +kernel
theorem aN9(l:List Bool)(j r:Nat)(h:r<8):jV l j/2^(7-r)%2=lR l (8*j+r):=by
 have o:=aJc l;have h0:=o (8*j);have h1:=o (8*j+1);have h2:=o (8*j+2);have h3:=o (8*j+3);have h4:=o (8*j+4);have h5:=o (8*j+5);have h6:=o (8*j+6);have h7:=o (8*j+7);unfold jV;obtain rfl|rfl|rfl|rfl|rfl|rfl|rfl|rfl:r=0∨r=1∨r=2∨r=3∨r=4∨r=5∨r=6∨r=7:=oo;all_goals
  simp only[Nat.reduceSub,Nat.reducePow,Nat.add_zero];omega
theorem aRb(l:List Bool)(i:Nat)(h:i<l.length):kA (dT l) i=l.getD i false:=by
 have e:(dT l).getD (i/8) 0=(jV l (i/8):Nat):=by rw[List.getD_eq_getElem?_getD,getElem?_pack,if_pos oo];rfl
 unfold kA;rw[e,aJ7 ⟨jV l (i/8),aBm _ _⟩ ⟨i%8,oo⟩];show (jV l (i/8)/2^(7-i%8)%2==1)=_;rw[aN9 l (i/8) (i%8) oo,show 8*(i/8)+i%8=i from by omega];unfold lR;cases l.getD i false<;>simp
theorem aVc(a l b:List Bool):fK (dT (a++l++b)) a.length l:=by
 refine⟨?_,fun i hi=>?_⟩
 ·rw[sE];simp only[List.length_append];omega
 ·rw[aRb _ _ (by simp only[List.length_append];omega),List.append_assoc,aFz oo,Nat.add_sub_cancel_left,aFy hi]
theorem aB7(l:List Bool):fK (dT l) 0 l:=by have:=aVc [] l [];simpa using this
def wA(ys:List Int):List Bool:=(List.range (8*ys.length)).map (kA ys)
theorem aHw(ys:List Int):(wA ys).length=8*ys.length:=by simp[wA]
theorem aHv(ys:List Int)(i:Nat)(h:i<8*ys.length):(wA ys).getD i false=kA ys i:=by simp[wA,List.getD_eq_getElem?_getD,h]
def aR{α:Type}(e:α→List Value)(l:List α):List Value:=(l.map e).flatten
class pX{α:Type}(e:α→List Value)(s:outParam Nat):Prop where h:(∀a,(e a).length=s)∧0<s
class aC7{α:Type}(e:α→List Value):Prop where h:∀a,∀u∈e a,u.oneCell'=true
class tW{α:Type}(e:α→List Value)(vs:List Value)(x:outParam α):Prop where h:e x=vs
section
variable {α:Type} {e:α→List Value} {s:Nat}
theorem aU4:aR e []=[]:=rfl
theorem sS(l r:List α):aR e (l++r)=aR e l++aR e r:=by simp[aR]
theorem uF(x:α):aR e [x]=e x:=by simp[aR]
theorem lF[h:pX e s]:∀l:List α,(aR e l).length=l.length*s
 | []=>by simp[aR]
 | x::r=>by
  have e1:aR e (x::r)=e x++aR e r:=by simp[aR]
  rw[e1,List.length_append,lF r,h.h.1 x,List.length_cons,Nat.add_mul];omega
theorem aD5[Inhabited α][h:pX e s]:∀(l:List α) (i k:Nat),i<l.length→k<s→(aR e l)[i*s+k]? = (e (l.getD i default))[k]?
 | [],i,k,hi,_=>by simp at hi
 | x::r,i,k,hi,hk=>by
  have e1:aR e (x::r)=e x++aR e r:=by simp[aR]
  rw[e1];cases i with
  | zero=>rw[List.getElem?_append_left (by rw[h.h.1];omega)];simp
  | succ i =>
   rw[List.getElem?_append_right (by rw[h.h.1,Nat.add_mul];omega),h.h.1,show (i+1)*s+k-s=i*s+k by rw[Nat.add_mul];omega,aD5 r i k (by simpa using hi) hk];simp
instance (priority:=200) [Inhabited α](l:List α)(i k:Nat)(v:Value)[h:pX e s][g:cZ (e (l.getD i default)) k v]:rM (aR e l) (i*s+k) v (i<l.length):=⟨fun hi=>by
 have hk:k<s:=by rw[← h.h.1 (l.getD i default)];exact(List.getElem?_eq_some_iff.1 g.h).1
 rw[aD5 l i k hi hk];exact g.h⟩
instance (priority:=190) [Inhabited α](l:List α)(i:Nat)(v:Value)[h:pX e s][g:cZ (e (l.getD i default)) 0 v]:rM (aR e l) (i*s) v (i<l.length):=⟨fun hi=>by rw[← Nat.add_zero (i*s),aD5 l i 0 hi h.h.2];exact g.h⟩
class aEk(xs:List Value)(q s:Nat)(o:outParam (List Value))(c:outParam Prop):Prop where h:c→o.length=s∧∀j u,o[j]? = some u→xs[q+j]? = some u
instance (priority:=100) [Inhabited α](l:List α)(i:Nat)[h:pX e s]:aEk (aR e l) (i*s) s (e (l.getD i default)) (i<l.length):=⟨fun hi=>⟨h.h.1 _,fun j u hu=>by
 have hk:j<s:=by rw[← h.h.1 (l.getD i default)];exact(List.getElem?_eq_some_iff.1 hu).1
 rw[aD5 l i j hi hk];exact hu⟩⟩
instance (l:List α)(vs:List Value)(x:α)[h:tW e vs x]:zK (aR e l) vs (aR e (l++[x])):=⟨by rw[sS,uF,h.h]⟩
instance (l:List α)[h:pX e s]:aEp (aR e l) s l.length:=⟨fun j hj=>by rw[lF]at hj;exact(Nat.eq_of_mul_eq_mul_right h.h.2 hj).symm⟩
end
class aIt(w0:World)(W:Nat→Prop)(b q s:Nat)(o:outParam (List Value))(c:outParam Prop):Prop where h:c→o.length=s∧b<w0.heap.size∧¬W b∧∀j u,o[j]? = some u→w0.cell? ⟨b,q+j,none⟩=some u
instance (priority:=100) (w0:World)(W:Nat→Prop)(b off q s:Nat)(xs o:List Value)(c:Prop)[h:aC8 w0 W b off xs][g:aEk xs q s o c]:aIt w0 W b (off+q) s o c:=⟨fun hc =>
 ⟨(g.h hc).1,h.h.1,h.h.2.1,fun j u hu=>by rw[Nat.add_assoc];exact h.h.2.2 (q+j) u ((g.h hc).2 j u hu)⟩⟩
theorem nS.old{w0:World}{W:Nat→Prop}{H:List HE}{b o:Nat}{cs:List Value}(hb:b<w0.heap.size)(hW:¬W b)(h:∀j u,cs[j]? = some u→w0.cell? ⟨b,o+j,none⟩=some u):nS w0 W H b o cs:=.of_cells fun j u hu=>.old hb hW (h j u hu)
theorem nS.row{w0:World}{W:Nat→Prop}{H R:List HE}{b o n c e s:Nat}{xs cs:List Value}(hm:aS H (.row (.slice (some ⟨b,0,none⟩) n c) e s n xs) R)(h:∀j u,cs[j]? = some u→xs[o+j]? = some u):nS w0 W H b o cs:=.of_cells fun j u hu=>.row hm (h j u hu)
section
variable {P:Program} {w0:World} {W:Nat→Prop} {H:List HE}
instance (priority:=40) (t b q sz bs:Nat)(z:Value)(dd:TypeDesc)(x:Operand)(o:List Value)(p:Prop)[aO P t dd][hd:gY dd][bH P t sz bs z][hr:aIt w0 W b q sz o p]:MS P w0 W H (.load t x) [.pointer (some ⟨b,q,none⟩)] (.agg o.toArray) p :=
 ⟨fun hc _ _ _ _ _ _ _ _ _ _ _ _ _ h1 h2 h3=>let ⟨e1,e2,e3,e4⟩:=hr.h hc;aHk (t:=t) (kW rfl h1) hd.h (nS.old e2 e3 e4) e1 h2 h3⟩
instance (priority:=60) (t b q sz bs m c e s:Nat)(z:Value)(dd:TypeDesc)(x:Operand)(o xs:List Value)(p:Prop)(k:HE→List HE)[aO P t dd][hd:gY dd][bH P t sz bs z][h:xW b H m c e s xs k][hr:aEk xs q sz o p]:MS P w0 W H (.load t x) [.pointer (some ⟨b,q,none⟩)] (.agg o.toArray) p :=
 ⟨fun hc _ _ _ _ _ _ _ _ _ _ _ _ _ h1 h2 h3=>let ⟨_,h4,_⟩:=h.h;aHk (t:=t) (kW rfl h1) hd.h (nS.row h4 (hr.h hc).2) (hr.h hc).1 h2 h3⟩
end
abbrev zD:Int×Int→List Value:=fun p=>[.int .i64 p.1,.int .i64 p.2]
instance:pX zD 2:=⟨fun _=>rfl,od⟩
instance (a b:Int):tW zD [.int .i64 a,.int .i64 b] (a,b):=⟨rfl⟩
structure jH where
 kind:Int
 seq:Int
 time:Int
 a:Int
 b:Int
 c:Int
deriving Inhabited
abbrev dR:jH→List Value:=fun f=>[.int .i64 f.kind,.int .u16 f.seq,.int .u32 f.time,.int .i32 f.a,.int .i32 f.b,.int .i32 f.c]
instance:pX dR 6:=⟨fun _=>rfl,od⟩
