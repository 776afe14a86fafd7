import Derived.Test.YthajpemlpmlefaaGreatRows
import Derived.WalkKit
import Derived.WalkSpells
import Derived.Lib.Hide
import Derived.Deep.Draws
import Derived.Deep.QuietTactic
import Derived.Test.YthajpemlpmlefaaGreatP05
import Derived.Test.YthajpemlpmlefaaGreatP07
set_option maxHeartbeats 512000000
set_option maxRecDepth 4000
set_option linter.unusedVariables false
set_option linter.unusedSimpArgs false
namespace Go.Proofs.YthajpemlpmlefaaGreat
open Go.RowKit
def flat{α:Type}(e:α→List Value)(l:List α):List Value:=(l.map e).flatten
class RowE{α:Type}(e:α→List Value)(s:outParam Nat):Prop where h:(∀a,(e a).length=s)∧0<s
class OneE{α:Type}(e:α→List Value):Prop where h:∀a,∀u∈e a,u.oneCell'=true
class UnE{α:Type}(e:α→List Value)(vs:List Value)(x:outParam α):Prop where h:e x=vs
section
variable {α:Type} {e:α→List Value} {s:Nat}
theorem flat_nil:flat e []=[]:=rfl
theorem flat_app(l r:List α):flat e (l++r)=flat e l++flat e r:=by simp[flat]
theorem flat_one(x:α):flat e [x]=e x:=by simp[flat]
theorem flat_len[h:RowE e s]:∀l:List α,(flat e l).length=l.length*s
 | []=>by simp[flat]
 | x::r=>by
  have e1:flat e (x::r)=e x++flat e r:=by simp[flat]
  rw[e1,List.length_append,flat_len r,h.h.1 x,List.length_cons,Nat.add_mul];omega
theorem flat_at[Inhabited α][h:RowE e s]:∀(l:List α) (i k:Nat),i<l.length→k<s→(flat e l)[i*s+k]? = (e (l.getD i default))[k]?
 | [],i,k,hi,_=>by simp at hi
 | x::r,i,k,hi,hk=>by
  have e1:flat e (x::r)=e x++flat e r:=by simp[flat]
  rw[e1]
  cases i with
  | zero=>rw[List.getElem?_append_left (by rw[h.h.1];omega)];simp
  | succ i =>
   rw[List.getElem?_append_right (by rw[h.h.1,Nat.add_mul];omega),h.h.1,show (i+1)*s+k-s=i*s+k by rw[Nat.add_mul];omega,flat_at r i k (by simpa using hi) hk]
   simp
instance (priority:=200) [Inhabited α](l:List α)(i k:Nat)(v:Value)[h:RowE e s][g:Get (e (l.getD i default)) k v]:Elem (flat e l) (i*s+k) v (i<l.length):=⟨fun hi=>by
 have hk:k<s:=by rw[← h.h.1 (l.getD i default)];exact(List.getElem?_eq_some_iff.1 g.h).1
 rw[flat_at l i k hi hk];exact g.h⟩
instance (priority:=190) [Inhabited α](l:List α)(i:Nat)(v:Value)[h:RowE e s][g:Get (e (l.getD i default)) 0 v]:Elem (flat e l) (i*s) v (i<l.length):=⟨fun hi=>by
 rw[← Nat.add_zero (i*s),flat_at l i 0 hi h.h.2];exact g.h⟩
class ECut(xs:List Value)(q s:Nat)(o:outParam (List Value))(c:outParam Prop):Prop where h:c→o.length=s∧∀j u,o[j]? = some u→xs[q+j]? = some u
instance (priority:=100) [Inhabited α](l:List α)(i:Nat)[h:RowE e s]:ECut (flat e l) (i*s) s (e (l.getD i default)) (i<l.length):=⟨fun hi=>⟨h.h.1 _,fun j u hu=>by
 have hk:j<s:=by rw[← h.h.1 (l.getD i default)];exact(List.getElem?_eq_some_iff.1 hu).1
 rw[flat_at l i j hi hk];exact hu⟩⟩
instance (l:List α)(vs:List Value)(x:α)[h:UnE e vs x]:AppI (flat e l) vs (flat e (l++[x])):=⟨by rw[flat_app,flat_one,h.h]⟩
instance (l:List α)[h:RowE e s]:LenOf (flat e l) s l.length:=⟨fun j hj=>by rw[flat_len]at hj;exact(Nat.eq_of_mul_eq_mul_right h.h.2 hj).symm⟩
end
class RoRow(w0:World)(W:Nat→Prop)(b q s:Nat)(o:outParam (List Value))(c:outParam Prop):Prop where h:c→o.length=s∧b<w0.heap.size∧¬W b∧∀j u,o[j]? = some u→w0.cell? ⟨b,q+j,none⟩=some u
instance (priority:=100) (w0:World)(W:Nat→Prop)(b off q s:Nat)(xs o:List Value)(c:Prop)[h:RoAt w0 W b off xs][g:ECut xs q s o c]:RoRow w0 W b (off+q) s o c:=⟨fun hc =>
 ⟨(g.h hc).1,h.h.1,h.h.2.1,fun j u hu=>by rw[Nat.add_assoc];exact h.h.2.2 (q+j) u ((g.h hc).2 j u hu)⟩⟩
theorem Range.old{w0:World}{W:Nat→Prop}{H:List HE}{b o:Nat}{cs:List Value}(hb:b<w0.heap.size)(hW:¬W b)(h:∀j u,cs[j]? = some u→w0.cell? ⟨b,o+j,none⟩=some u):Range w0 W H b o cs:=.of_cells fun j u hu=>.old hb hW (h j u hu)
theorem Range.row{w0:World}{W:Nat→Prop}{H R:List HE}{b o n c e s:Nat}{xs cs:List Value}(hm:Has H (.row (.slice (some ⟨b,0,none⟩) n c) e s n xs) R)(h:∀j u,cs[j]? = some u→xs[o+j]? = some u):Range w0 W H b o cs:=.of_cells fun j u hu=>.row hm (h j u hu)
section
variable {P:Program} {w0:World} {W:Nat→Prop} {H:List HE}
instance (priority:=40) (t b q sz bs:Nat)(z:Value)(dd:TypeDesc)(x:Operand)(o:List Value)(p:Prop)[Und P t dd][hd:YesAgg dd][Inf P t sz bs z][hr:RoRow w0 W b q sz o p]:MS P w0 W H (.load t x) [.pointer (some ⟨b,q,none⟩)] (.agg o.toArray) p :=
 ⟨fun hc _ _ _ _ _ _ _ _ _ _ _ _ _ h1 h2 h3=>let ⟨e1,e2,e3,e4⟩:=hr.h hc;r_loadAgg (t:=t) (opnds1 rfl h1) hd.h (Range.old e2 e3 e4) e1 h2 h3⟩
instance (priority:=60) (t b q sz bs m c e s:Nat)(z:Value)(dd:TypeDesc)(x:Operand)(o xs:List Value)(p:Prop)(k:HE→List HE)[Und P t dd][hd:YesAgg dd][Inf P t sz bs z][h:AtRow b H m c e s xs k][hr:ECut xs q sz o p]:MS P w0 W H (.load t x) [.pointer (some ⟨b,q,none⟩)] (.agg o.toArray) p :=
 ⟨fun hc _ _ _ _ _ _ _ _ _ _ _ _ _ h1 h2 h3=>let ⟨_,h4,_⟩:=h.h;r_loadAgg (t:=t) (opnds1 rfl h1) hd.h (Range.row h4 (hr.h hc).2) (hr.h hc).1 h2 h3⟩
end
abbrev spotE:Int×Int→List Value:=fun p=>[.int .i64 p.1,.int .i64 p.2]
instance:RowE spotE 2:=⟨fun _=>rfl,by decide⟩
instance (a b:Int):UnE spotE [.int .i64 a,.int .i64 b] (a,b):=⟨rfl⟩
structure Frm where
 kind:Int
 seq:Int
 time:Int
 a:Int
 b:Int
 c:Int
deriving Inhabited
abbrev frmE:Frm→List Value:=fun f=>[.int .i64 f.kind,.int .u16 f.seq,.int .u32 f.time,.int .i32 f.a,.int .i32 f.b,.int .i32 f.c]
instance:RowE frmE 6:=⟨fun _=>rfl,by decide⟩
theorem pack_u8(l:List Bool):U8s (pack l):=by
 intro x hx
 unfold pack at hx
 obtain⟨k,-,rfl⟩:=List.mem_map.1 hx
 have:=packAt_lt l k
 omega
theorem and_bit:∀(x:Fin 256) (r:Fin 8),(bits .and .u8 ((x:Nat):Int) (128/2^(r:Nat)) != 0)=((x:Nat)/2^(7-(r:Nat))%2==1):=by decide +kernel
theorem packAt_bit(l:List Bool)(j r:Nat)(h:r<8):packAt l j/2^(7-r)%2=bitN l (8*j+r):=by
 have o:=bitN_le l
 have h0:=o (8*j);have h1:=o (8*j+1);have h2:=o (8*j+2);have h3:=o (8*j+3);have h4:=o (8*j+4);have h5:=o (8*j+5);have h6:=o (8*j+6);have h7:=o (8*j+7)
 unfold packAt
 obtain rfl|rfl|rfl|rfl|rfl|rfl|rfl|rfl:r=0∨r=1∨r=2∨r=3∨r=4∨r=5∨r=6∨r=7:=by omega
 all_goals
  simp only[Nat.reduceSub,Nat.reducePow,Nat.add_zero]
  omega
theorem bitY_pack(l:List Bool)(i:Nat)(h:i<l.length):bitY (pack l) i=l.getD i false:=by
 have e:(pack l).getD (i/8) 0=(packAt l (i/8):Nat):=by
  rw[List.getD_eq_getElem?_getD,getElem?_pack,if_pos (by omega)];rfl
 unfold bitY
 rw[e,and_bit ⟨packAt l (i/8),packAt_lt _ _⟩ ⟨i%8,by omega⟩]
 show (packAt l (i/8)/2^(7-i%8)%2==1)=_
 rw[packAt_bit l (i/8) (i%8) (by omega),show 8*(i/8)+i%8=i from by omega]
 unfold bitN
 cases l.getD i false<;>simp
theorem isAt_pack(a l b:List Bool):isAt (pack (a++l++b)) a.length l:=by
 refine⟨?_,fun i hi=>?_⟩
 ·rw[pack_len];simp only[List.length_append];omega
 ·rw[bitY_pack _ _ (by simp only[List.length_append];omega),List.append_assoc,getD_append_right (by omega),Nat.add_sub_cancel_left,getD_append_left hi]
theorem isAt_pack0(l:List Bool):isAt (pack l) 0 l:=by
 have:=isAt_pack [] l []
 simpa using this
def rowY(ys:List Int):List Bool:=(List.range (8*ys.length)).map (bitY ys)
theorem rowY_len(ys:List Int):(rowY ys).length=8*ys.length:=by simp[rowY]
theorem rowY_get(ys:List Int)(i:Nat)(h:i<8*ys.length):(rowY ys).getD i false=bitY ys i:=by simp[rowY,List.getD_eq_getElem?_getD,h]
def splice(cs:Array Value)(o:Nat)(xs:List Value):Array Value :=
 (cs.toList.take o++xs++cs.toList.drop (o+xs.length)).toArray
theorem splice_size{cs:Array Value}{o:Nat}{xs:List Value}(h:o+xs.length≤cs.size):(splice cs o xs).size=cs.size:=by
 simp[splice];omega
theorem splice_get{cs:Array Value}{o:Nat}{xs:List Value}(h:o+xs.length≤cs.size){k:Nat}(hk:k<xs.length):(splice cs o xs)[o+k]? = xs[k]?:=by
 have ho:(cs.toList.take o).length=o:=by simp;omega
 simp only[splice,List.getElem?_toArray,List.append_assoc]
 rw[List.getElem?_append_right (by omega),ho,Nat.add_sub_cancel_left,List.getElem?_append_left hk]
theorem splice_out{cs:Array Value}{o:Nat}{xs:List Value}(h:o+xs.length≤cs.size){j:Nat}(hj:j<o∨o+xs.length≤j):(splice cs o xs)[j]? = cs[j]?:=by
 have ho:(cs.toList.take o).length=o:=by simp;omega
 simp only[splice,List.getElem?_toArray,List.append_assoc]
 rcases hj with hj|hj
 ·rw[List.getElem?_append_left (by omega),List.getElem?_take_of_lt hj,Array.getElem?_toList]
 ·rw[List.getElem?_append_right (by omega),ho,List.getElem?_append_right (by omega),List.getElem?_drop,Array.getElem?_toList]
  congr 1;omega
theorem splice_set{cs:Array Value}{o:Nat}{xs:List Value}(h:o+xs.length≤cs.size){k:Nat}(hk:k<xs.length)(u:Value):
  (splice cs o xs).setIfInBounds (o+k) u=splice cs o (xs.set k u):=by
 apply Array.ext_getElem?
 intro j
 have hl:(xs.set k u).length=xs.length:=List.length_set ..
 rw[Array.getElem?_setIfInBounds]
 by_cases hj:o+k=j
 ·subst hj
  rw[if_pos rfl,if_pos (by rw[splice_size h];omega),splice_get (by omega) (by omega),List.getElem?_set_self (by omega)]
 ·rw[if_neg hj]
  by_cases hin:o≤j∧j<o+xs.length
  ·obtain⟨i,rfl⟩:∃i,j=o+i:=⟨j-o,by omega⟩
   rw[splice_get h (by omega),splice_get (by omega) (by omega),List.getElem?_set_ne (by omega)]
  ·rw[splice_out h (by omega),splice_out (by omega) (by omega)]
def Hold(w:World)(g:Nat)(t:TypeId)(cs:Array Value)(o:Nat)(xs:List Value):Prop :=
 w.heap[g]? = some (.cells (splice cs o xs) t (0,0))∧o+xs.length≤cs.size
section
variable {w w':World} {g:Nat} {t:TypeId} {cs:Array Value} {o:Nat} {xs:List Value}
theorem Hold.lt(h:Hold w g t cs o xs):g<w.heap.size:=by
 rcases Nat.lt_or_ge g w.heap.size with hlt|hge
 ·exact hlt
 ·have:=h.1;rw[Array.getElem?_eq_none hge]at this;cases this
theorem Hold.cell(h:Hold w g t cs o xs){k:Nat}(hk:k<xs.length):w.cell? ⟨g,o+k,none⟩=xs[k]? :=
 (cell_of_row w g (o+k) _ t (0,0) h.1).trans (splice_get h.2 hk)
theorem Hold.cell_is(h:Hold w g t cs o xs){k:Nat}{v:Value}(hk:xs[k]? = some v):w.cell? ⟨g,o+k,none⟩=some v:=by
 have:k<xs.length:=(List.getElem?_eq_some_iff.1 hk).1
 rw[h.cell this,hk]
theorem Hold.frozen(h:Hold w g t cs o xs)(i:Nat):w.frozen? ⟨g,i,none⟩=false:=by
 have:=h.1
 simp[World.frozen?,this]
theorem Hold.drew(h:Hold w g t cs o xs):Hold w.drew g t cs o xs:=h
theorem Hold.drewN(h:Hold w g t cs o xs)(n:Nat):Hold (w.drewN n) g t cs o xs:=h
theorem Hold.alloc(h:Hold w g t cs o xs)(ob:Obj):Hold (w.alloc ob) g t cs o xs:=⟨(Below.heap_alloc w ob g h.lt).trans h.1,h.2⟩
theorem Hold.set_(h:Hold w g t cs o xs){k:Nat}(hk:k<xs.length)(u:Value):Hold (w.setCell ⟨g,o+k,none⟩ u) g t cs o (xs.set k u):=by
 refine⟨?_,by rw[List.length_set];exact h.2⟩
 have:=h.1
 simp[World.setCell,Array.getElem?_modify,this]
 exact splice_set h.2 hk u
end
theorem only_drewN{a w:World}{row:Option Nat}(h:a.grownBy w row)(n:Nat):a.grownBy (w.drewN n) row:=⟨h.os,h.tape,h.output,h.size,h.block⟩
theorem only_drew{a w:World}{row:Option Nat}(h:a.grownBy w row):a.grownBy w.drew row:=⟨h.os,h.tape,h.output,h.size,h.block⟩
theorem only_alloc{a w:World}{row:Option Nat}(h:a.grownBy w row)(o:Obj):a.grownBy (w.alloc o) row :=
 ⟨h.os,h.tape,h.output,Nat.le_trans h.size (by simp),fun i hi hne=>(Below.heap_alloc w o i (Nat.lt_of_lt_of_le hi h.size)).trans (h.block i hi hne)⟩
theorem only_setCell{a w:World}{g:Nat}(h:a.grownBy w (some g)){p:Addr}(hp:p.block=g∨a.heap.size≤p.block)(u:Value):a.grownBy (w.setCell p u) (some g) :=
 ⟨h.os,h.tape,h.output,by simpa [World.setCell] using h.size,fun i hi hne=>(Below.heap_setCell w p u i (by
  rintro rfl
  rcases hp with hp|hp
  ·exact hne (by rw[hp])
  ·omega)).trans (h.block i hi hne)⟩
theorem only_trans{a b c:World}{row:Option Nat}(h:a.grownBy b row)(k:b.grownBy c row):a.grownBy c row :=
 ⟨k.os.trans h.os,k.tape.trans h.tape,k.output.trans h.output,Nat.le_trans h.size k.size,fun i hi hne=>(k.block i (Nat.lt_of_lt_of_le hi h.size) hne).trans (h.block i hi hne)⟩
def Upd(w0:World)(g:Nat)(t:TypeId)(cs:Array Value)(o:Nat)(xs:List Value)(w:World):Prop :=
 Hold w g t cs o xs∧w0.grownBy w (some g)
section
variable {w0 w w':World} {g:Nat} {t:TypeId} {cs:Array Value} {o:Nat} {xs:List Value}
theorem Upd.start(h:Hold w g t cs o xs):Upd w g t cs o xs w:=⟨h,World.grownBy.refl w _⟩
theorem Upd.drew(h:Upd w0 g t cs o xs w):Upd w0 g t cs o xs w.drew:=⟨h.1.drew,only_drew h.2⟩
theorem Upd.drewN(h:Upd w0 g t cs o xs w)(n:Nat):Upd w0 g t cs o xs (w.drewN n):=⟨h.1.drewN n,only_drewN h.2 n⟩
theorem Upd.alloc(h:Upd w0 g t cs o xs w)(ob:Obj):Upd w0 g t cs o xs (w.alloc ob):=⟨h.1.alloc ob,only_alloc h.2 ob⟩
theorem Upd.set_(h:Upd w0 g t cs o xs w)(k:Nat)(u:Value)(hk:k<xs.length):Upd w0 g t cs o (xs.set k u) (w.setCell ⟨g,o+k,none⟩ u) :=
 ⟨h.1.set_ hk u,only_setCell (p:=⟨g,o+k,none⟩) h.2 (.inl rfl) u⟩
theorem Upd.trans{ys:List Value}(h:Upd w0 g t cs o xs w)(k:Upd w g t cs o ys w'):Upd w0 g t cs o ys w':=⟨k.1,only_trans h.2 k.2⟩
end
theorem quiet_left{P:Program}{f:FuncId}{args:Array Value}{w:World}{n:Nat}{v:Value}
  (h:Calls P f args (w.drewN n) fun e w'=>e=.returned v∧w.drewN n=w'):Calls P f args (w.drewN n) fun e w''=>e=.returned v∧∃m,w''=w.drewN m :=
 h.mono fun _ _ ⟨he,hm⟩=>⟨he,n,hm.symm⟩
end Go.Proofs.YthajpemlpmlefaaGreat
