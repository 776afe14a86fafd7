import Derived.Test.YtbhchphfmhmabaaGreatRows
import Derived.WalkKit
import Derived.WalkSpells
import Derived.Lib.Hide
import Derived.Deep.Draws
import Derived.Deep.QuietTactic
import Derived.Test.YtbhchphfmhmabaaGreatP05
import Derived.Test.YtbhchphfmhmabaaGreatP07
set_option maxHeartbeats 512000000
set_option maxRecDepth 4000
set_option linter.unusedVariables false
set_option linter.unusedSimpArgs false
namespace Go.Proofs.YtbhchphfmhmabaaGreat
open Go.RowKit
def aO{α:Type}(e:α→List Value)(l:List α):List Value:=(l.map e).flatten
class oN{α:Type}(e:α→List Value)(s:outParam Nat):Prop where h:(∀a,(e a).length=s)∧0<s
class aI1{α:Type}(e:α→List Value):Prop where h:∀a,∀u∈e a,u.oneCell'=true
class tD{α:Type}(e:α→List Value)(vs:List Value)(x:outParam α):Prop where h:e x=vs
section
variable {α:Type} {e:α→List Value} {s:Nat}
theorem aTi:aO e []=[]:=rfl
theorem rV(l r:List α):aO e (l++r)=aO e l++aO e r:=by simp[aO]
theorem tK(x:α):aO e [x]=e x:=by simp[aO]
theorem kJ[h:oN e s]:∀l:List α,(aO e l).length=l.length*s
 | []=>by simp[aO]
 | x::r=>by
  have e1:aO e (x::r)=e x++aO e r:=by simp[aO]
  rw[e1,List.length_append,kJ r,h.h.1 x,List.length_cons,Nat.add_mul];omega
theorem aCj[Inhabited α][h:oN e s]:∀(l:List α) (i k:Nat),i<l.length→k<s→(aO e l)[i*s+k]? = (e (l.getD i default))[k]?
 | [],i,k,hi,_=>by simp at hi
 | x::r,i,k,hi,hk=>by
  have e1:aO e (x::r)=e x++aO e r:=by simp[aO]
  rw[e1];cases i with
  | zero=>rw[List.getElem?_append_left (by rw[h.h.1];omega)];simp
  | succ i =>
   rw[List.getElem?_append_right (by rw[h.h.1,Nat.add_mul];omega),h.h.1,show (i+1)*s+k-s=i*s+k by rw[Nat.add_mul];omega,aCj r i k (by simpa using hi) hk];simp
instance (priority:=200) [Inhabited α](l:List α)(i k:Nat)(v:Value)[h:oN e s][g:dG (e (l.getD i default)) k v]:rI (aO e l) (i*s+k) v (i<l.length):=⟨fun hi=>by
 have hk:k<s:=by rw[← h.h.1 (l.getD i default)];exact(List.getElem?_eq_some_iff.1 g.h).1
 rw[aCj l i k hi hk];exact g.h⟩
instance (priority:=190) [Inhabited α](l:List α)(i:Nat)(v:Value)[h:oN e s][g:dG (e (l.getD i default)) 0 v]:rI (aO e l) (i*s) v (i<l.length):=⟨fun hi=>by rw[← Nat.add_zero (i*s),aCj l i 0 hi h.h.2];exact g.h⟩
class aDy(xs:List Value)(q s:Nat)(o:outParam (List Value))(c:outParam Prop):Prop where h:c→o.length=s∧∀j u,o[j]? = some u→xs[q+j]? = some u
instance (priority:=100) [Inhabited α](l:List α)(i:Nat)[h:oN e s]:aDy (aO e l) (i*s) s (e (l.getD i default)) (i<l.length):=⟨fun hi=>⟨h.h.1 _,fun j u hu=>by
 have hk:j<s:=by rw[← h.h.1 (l.getD i default)];exact(List.getElem?_eq_some_iff.1 hu).1
 rw[aCj l i j hi hk];exact hu⟩⟩
instance (l:List α)(vs:List Value)(x:α)[h:tD e vs x]:yN (aO e l) vs (aO e (l++[x])):=⟨by rw[rV,tK,h.h]⟩
instance (l:List α)[h:oN e s]:aE3 (aO e l) s l.length:=⟨fun j hj=>by rw[kJ]at hj;exact(Nat.eq_of_mul_eq_mul_right h.h.2 hj).symm⟩
end
class aI3(w0:World)(W:Nat→Prop)(b q s:Nat)(o:outParam (List Value))(c:outParam Prop):Prop where h:c→o.length=s∧b<w0.heap.size∧¬W b∧∀j u,o[j]? = some u→w0.cell? ⟨b,q+j,none⟩=some u
instance (priority:=100) (w0:World)(W:Nat→Prop)(b off q s:Nat)(xs o:List Value)(c:Prop)[h:aBi w0 W b off xs][g:aDy xs q s o c]:aI3 w0 W b (off+q) s o c:=⟨fun hc =>
 ⟨(g.h hc).1,h.h.1,h.h.2.1,fun j u hu=>by rw[Nat.add_assoc];exact h.h.2.2 (q+j) u ((g.h hc).2 j u hu)⟩⟩
theorem mO.old{w0:World}{W:Nat→Prop}{H:List HE}{b o:Nat}{cs:List Value}(hb:b<w0.heap.size)(hW:¬W b)(h:∀j u,cs[j]? = some u→w0.cell? ⟨b,o+j,none⟩=some u):mO w0 W H b o cs:=.of_cells fun j u hu=>.old hb hW (h j u hu)
theorem mO.row{w0:World}{W:Nat→Prop}{H R:List HE}{b o n c e s:Nat}{xs cs:List Value}(hm:aP H (.row (.slice (some ⟨b,0,none⟩) n c) e s n xs) R)(h:∀j u,cs[j]? = some u→xs[o+j]? = some u):mO w0 W H b o cs:=.of_cells fun j u hu=>.row hm (h j u hu)
section
variable {P:Program} {w0:World} {W:Nat→Prop} {H:List HE}
instance (priority:=40) (t b q sz bs:Nat)(z:Value)(dd:TypeDesc)(x:Operand)(o:List Value)(p:Prop)[aN P t dd][hd:gP dd][bF P t sz bs z][hr:aI3 w0 W b q sz o p]:MS P w0 W H (.load t x) [.pointer (some ⟨b,q,none⟩)] (.agg o.toArray) p :=
 ⟨fun hc _ _ _ _ _ _ _ _ _ _ _ _ _ h1 h2 h3=>let ⟨e1,e2,e3,e4⟩:=hr.h hc;aGu (t:=t) (kP rfl h1) hd.h (mO.old e2 e3 e4) e1 h2 h3⟩
instance (priority:=60) (t b q sz bs m c e s:Nat)(z:Value)(dd:TypeDesc)(x:Operand)(o xs:List Value)(p:Prop)(k:HE→List HE)[aN P t dd][hd:gP dd][bF P t sz bs z][h:xC b H m c e s xs k][hr:aDy xs q sz o p]:MS P w0 W H (.load t x) [.pointer (some ⟨b,q,none⟩)] (.agg o.toArray) p :=
 ⟨fun hc _ _ _ _ _ _ _ _ _ _ _ _ _ h1 h2 h3=>let ⟨_,h4,_⟩:=h.h;aGu (t:=t) (kP rfl h1) hd.h (mO.row h4 (hr.h hc).2) (hr.h hc).1 h2 h3⟩
end
abbrev yG:Int×Int→List Value:=fun p=>[.int .i64 p.1,.int .i64 p.2]
instance:oN yG 2:=⟨fun _=>rfl,od⟩
instance (a b:Int):tD yG [.int .i64 a,.int .i64 b] (a,b):=⟨rfl⟩
structure lM where
 kind:Int
 seq:Int
 time:Int
 a:Int
 b:Int
 c:Int
deriving Inhabited
abbrev dU:lM→List Value:=fun f=>[.int .i64 f.kind,.int .u16 f.seq,.int .u32 f.time,.int .i32 f.a,.int .i32 f.b,.int .i32 f.c]
instance:oN dU 6:=⟨fun _=>rfl,od⟩
theorem aY0(l:List Bool):dL (dJ l):=by intro x hx;unfold dJ at hx;obtain⟨k,-,rfl⟩:=List.mem_map.1 hx;have:=aAz l k;omega
theorem aIg:∀(x:Fin 256) (r:Fin 8),(bits .and .u8 ((x:Nat):Int) (128/2^(r:Nat)) != 0)=((x:Nat)/2^(7-(r:Nat))%2==1):=by decide +kernel
theorem aMg(l:List Bool)(j r:Nat)(h:r<8):jA l j/2^(7-r)%2=kV l (8*j+r):=by
 have o:=aIl l;have h0:=o (8*j);have h1:=o (8*j+1);have h2:=o (8*j+2);have h3:=o (8*j+3);have h4:=o (8*j+4);have h5:=o (8*j+5);have h6:=o (8*j+6);have h7:=o (8*j+7);unfold jA;obtain rfl|rfl|rfl|rfl|rfl|rfl|rfl|rfl:r=0∨r=1∨r=2∨r=3∨r=4∨r=5∨r=6∨r=7:=oo;all_goals
  simp only[Nat.reduceSub,Nat.reducePow,Nat.add_zero];omega
theorem aQl(l:List Bool)(i:Nat)(h:i<l.length):jE (dJ l) i=l.getD i false:=by
 have e:(dJ l).getD (i/8) 0=(jA l (i/8):Nat):=by rw[List.getD_eq_getElem?_getD,getElem?_pack,if_pos oo];rfl
 unfold jE;rw[e,aIg ⟨jA l (i/8),aAz _ _⟩ ⟨i%8,oo⟩];show (jA l (i/8)/2^(7-i%8)%2==1)=_;rw[aMg l (i/8) (i%8) oo,show 8*(i/8)+i%8=i from by omega];unfold kV;cases l.getD i false<;>simp
theorem aUs(a l b:List Bool):eX (dJ (a++l++b)) a.length l:=by
 refine⟨?_,fun i hi=>?_⟩
 ·rw[rB];simp only[List.length_append];omega
 ·rw[aQl _ _ (by simp only[List.length_append];omega),List.append_assoc,aFd oo,Nat.add_sub_cancel_left,aFc hi]
theorem aAm(l:List Bool):eX (dJ l) 0 l:=by have:=aUs [] l [];simpa using this
def vF(ys:List Int):List Bool:=(List.range (8*ys.length)).map (jE ys)
theorem aH7(ys:List Int):(vF ys).length=8*ys.length:=by simp[vF]
theorem aH6(ys:List Int)(i:Nat)(h:i<8*ys.length):(vF ys).getD i false=jE ys i:=by simp[vF,List.getD_eq_getElem?_getD,h]
def sW(cs:Array Value)(o:Nat)(xs:List Value):Array Value :=
 (cs.toList.take o++xs++cs.toList.drop (o+xs.length)).toArray
theorem bAw{cs:Array Value}{o:Nat}{xs:List Value}(h:o+xs.length≤cs.size):(sW cs o xs).size=cs.size:=by simp[sW];omega
theorem aDk{cs:Array Value}{o:Nat}{xs:List Value}(h:o+xs.length≤cs.size){k:Nat}(hk:k<xs.length):(sW cs o xs)[o+k]? = xs[k]?:=by
 have ho:(cs.toList.take o).length=o:=by simp;omega
 simp only[sW,List.getElem?_toArray,List.append_assoc];rw[List.getElem?_append_right oo,ho,Nat.add_sub_cancel_left,List.getElem?_append_left hk]
theorem aNr{cs:Array Value}{o:Nat}{xs:List Value}(h:o+xs.length≤cs.size){j:Nat}(hj:j<o∨o+xs.length≤j):(sW cs o xs)[j]? = cs[j]?:=by
 have ho:(cs.toList.take o).length=o:=by simp;omega
 simp only[sW,List.getElem?_toArray,List.append_assoc];rcases hj with hj|hj
 ·rw[List.getElem?_append_left oo,List.getElem?_take_of_lt hj,Array.getElem?_toList]
 ·rw[List.getElem?_append_right oo,ho,List.getElem?_append_right oo,List.getElem?_drop,Array.getElem?_toList];congr 1;omega
theorem bAv{cs:Array Value}{o:Nat}{xs:List Value}(h:o+xs.length≤cs.size){k:Nat}(hk:k<xs.length)(u:Value):
  (sW cs o xs).setIfInBounds (o+k) u=sW cs o (xs.set k u):=by
 apply Array.ext_getElem?;intro j;have hl:(xs.set k u).length=xs.length:=List.length_set ..;rw[Array.getElem?_setIfInBounds];by_cases hj:o+k=j
 ·subst hj;rw[if_pos rfl,if_pos (by rw[bAw h];omega),aDk oo oo,List.getElem?_set_self oo]
 ·rw[if_neg hj];by_cases hin:o≤j∧j<o+xs.length
  ·obtain⟨i,rfl⟩:∃i,j=o+i:=⟨j-o,oo⟩;rw[aDk h oo,aDk oo oo,List.getElem?_set_ne oo]
  ·rw[aNr h oo,aNr oo oo]
def dA(w:World)(g:Nat)(t:TypeId)(cs:Array Value)(o:Nat)(xs:List Value):Prop :=
 w.heap[g]? = some (.cells (sW cs o xs) t (0,0))∧o+xs.length≤cs.size
section
variable {w w':World} {g:Nat} {t:TypeId} {cs:Array Value} {o:Nat} {xs:List Value}
theorem dA.lt(h:dA w g t cs o xs):g<w.heap.size:=by
 rcases Nat.lt_or_ge g w.heap.size with hlt|hge
 ·exact hlt
 ·have:=h.1;rw[Array.getElem?_eq_none hge]at this;cases this
theorem dA.cell(h:dA w g t cs o xs){k:Nat}(hk:k<xs.length):w.cell? ⟨g,o+k,none⟩=xs[k]? :=
 (cell_of_row w g (o+k) _ t (0,0) h.1).trans (aDk h.2 hk)
theorem dA.cell_is(h:dA w g t cs o xs){k:Nat}{v:Value}(hk:xs[k]? = some v):w.cell? ⟨g,o+k,none⟩=some v:=by have:k<xs.length:=(List.getElem?_eq_some_iff.1 hk).1;rw[h.cell this,hk]
theorem dA.frozen(h:dA w g t cs o xs)(i:Nat):w.frozen? ⟨g,i,none⟩=false:=by have:=h.1;simp[World.frozen?,this]
theorem dA.drew(h:dA w g t cs o xs):dA w.drew g t cs o xs:=h
theorem dA.drewN(h:dA w g t cs o xs)(n:Nat):dA (w.drewN n) g t cs o xs:=h
theorem dA.alloc(h:dA w g t cs o xs)(ob:Obj):dA (w.alloc ob) g t cs o xs:=⟨(Below.heap_alloc w ob g h.lt).trans h.1,h.2⟩
theorem dA.set_(h:dA w g t cs o xs){k:Nat}(hk:k<xs.length)(u:Value):dA (w.setCell ⟨g,o+k,none⟩ u) g t cs o (xs.set k u):=by refine⟨?_,by rw[List.length_set];exact h.2⟩;have:=h.1;simp[World.setCell,Array.getElem?_modify,this];exact bAv h.2 hk u
end
theorem aX7{a w:World}{row:Option Nat}(h:a.grownBy w row)(n:Nat):a.grownBy (w.drewN n) row:=⟨h.os,h.tape,h.output,h.size,h.block⟩
theorem aX6{a w:World}{row:Option Nat}(h:a.grownBy w row):a.grownBy w.drew row:=⟨h.os,h.tape,h.output,h.size,h.block⟩
theorem aX5{a w:World}{row:Option Nat}(h:a.grownBy w row)(o:Obj):a.grownBy (w.alloc o) row :=
 ⟨h.os,h.tape,h.output,Nat.le_trans h.size aE,fun i hi hne=>(Below.heap_alloc w o i (Nat.lt_of_lt_of_le hi h.size)).trans (h.block i hi hne)⟩
theorem aX8{a w:World}{g:Nat}(h:a.grownBy w (some g)){p:Addr}(hp:p.block=g∨a.heap.size≤p.block)(u:Value):a.grownBy (w.setCell p u) (some g) :=
 ⟨h.os,h.tape,h.output,by simpa [World.setCell] using h.size,fun i hi hne=>(Below.heap_setCell w p u i (by
  rintro rfl;rcases hp with hp|hp
  ·exact hne (by rw[hp])
  ·omega)).trans (h.block i hi hne)⟩
theorem aM5{a b c:World}{row:Option Nat}(h:a.grownBy b row)(k:b.grownBy c row):a.grownBy c row :=
 ⟨k.os.trans h.os,k.tape.trans h.tape,k.output.trans h.output,Nat.le_trans h.size k.size,fun i hi hne=>(k.block i (Nat.lt_of_lt_of_le hi h.size) hne).trans (h.block i hi hne)⟩
def cL(w0:World)(g:Nat)(t:TypeId)(cs:Array Value)(o:Nat)(xs:List Value)(w:World):Prop :=
 dA w g t cs o xs∧w0.grownBy w (some g)
section
variable {w0 w w':World} {g:Nat} {t:TypeId} {cs:Array Value} {o:Nat} {xs:List Value}
theorem cL.start(h:dA w g t cs o xs):cL w g t cs o xs w:=⟨h,World.grownBy.refl w _⟩
theorem cL.drew(h:cL w0 g t cs o xs w):cL w0 g t cs o xs w.drew:=⟨h.1.drew,aX6 h.2⟩
theorem cL.drewN(h:cL w0 g t cs o xs w)(n:Nat):cL w0 g t cs o xs (w.drewN n):=⟨h.1.drewN n,aX7 h.2 n⟩
theorem cL.alloc(h:cL w0 g t cs o xs w)(ob:Obj):cL w0 g t cs o xs (w.alloc ob):=⟨h.1.alloc ob,aX5 h.2 ob⟩
theorem cL.set_(h:cL w0 g t cs o xs w)(k:Nat)(u:Value)(hk:k<xs.length):cL w0 g t cs o (xs.set k u) (w.setCell ⟨g,o+k,none⟩ u) :=
 ⟨h.1.set_ hk u,aX8 (p:=⟨g,o+k,none⟩) h.2 (.inl rfl) u⟩
theorem cL.trans{ys:List Value}(h:cL w0 g t cs o xs w)(k:cL w g t cs o ys w'):cL w0 g t cs o ys w':=⟨k.1,aM5 h.2 k.2⟩
end
theorem aGq{P:Program}{f:FuncId}{args:Array Value}{w:World}{n:Nat}{v:Value}
  (h:Calls P f args (w.drewN n) fun e w'=>e=.returned v∧w.drewN n=w'):Calls P f args (w.drewN n) fun e w''=>e=.returned v∧∃m,w''=w.drewN m :=
 h.mono fun _ _ ⟨he,hm⟩=>⟨he,n,hm.symm⟩
