import Derived.Laws.Cover3
import Derived.Test.YtbhchphfmhmabaaGreatP23
import Derived.Test.YtbhchphfmhmabaaGreatP24
set_option maxHeartbeats 512000000
set_option maxRecDepth 4000
set_option linter.unusedVariables false
set_option linter.unusedSimpArgs false
namespace Go.Proofs.YtbhchphfmhmabaaGreat
open Go.RowKit _root_.Go.Proofs.Tryz
section
variable {P:Program} {w0:World} {W:Nat→Prop} {H:List HE}
theorem bAh(w:World){t e:TypeId}(a:Option Addr)(l c:Nat)(h:P.underlying t=some (.slice e)):(binOp .eql t (.slice a l c) (.slice none 0 0)).run P w=.ok (.bool a.isNone) w:=by simp only[binOp];simp[run_equal_slice_nil w t e a l c h]
instance (t u e:TypeId)(x y:Operand)(a:Addr)(l c:Nat)[hu:aN P t (.slice e)]:MS P w0 W H (.binOp .eql t x y u) [.slice (some a) l c,.slice none 0 0] (.bool false) True :=
 ⟨fun _ _ _ _ _ _ _ _ _ _ _ _ _ _ h1 h2 h3=>dW aE rfl h2 (fun a w ha hw=>by obtain⟨p,q⟩:=dP h1;simp[execOp,ha.eval p,ha.eval q,eqGuard,bAh w _ _ _ hu.h]) h3⟩
end
attribute [local irreducible] OJ J bM Code.wpIn wpListIn Oper.wpIn bodyPost CallsIn aF
theorem aJ7(A:Option Addr)(c:Nat)(l:List Int)(w:World)(hr:bP w (bB []) A l.length c 1 (aD .i64 l))(hl:0<l.length∧l.length≤1000000):aF prog 204 [.slice A l.length c] [] w
  (fun v S'=>∃A' c',v=.slice A' l.length c'∧S'=[.row (.slice A' l.length c') 2 1 l.length (aD .i64 l)]):=by
 obtain⟨bL,oL,rfl,hRL⟩:=hr.at_ hl.1;refine aJ func204 rfl ntmps204 rfl ⟨aE,.nil⟩ (fun n=>?_);simp only[aG];refine aB;exact aM rfl rfl aA.au ⟨_,_,rfl,rfl⟩
def pX(g:Nat→Int)(p:List Int)(i:Nat):List Int:=dO g i++p.drop i
theorem aLm(g:Nat→Int){p:List Int}{i:Nat}(h:i≤p.length):(pX g p i).length=p.length:=by unfold pX;rw[List.length_append,fQ,List.length_drop];omega
theorem aLk(g:Nat→Int)(p:List Int):pX g p p.length=dO g p.length:=by unfold pX;rw[List.drop_length,List.append_nil]
theorem aLl(g:Nat→Int){p:List Int}{i:Nat}(h:i<p.length):(pX g p i).getD i 0=p.getD i 0:=by unfold pX;rw[List.getD_eq_getElem?_getD,List.getElem?_append_right (by rw[fQ];exact Nat.le_refl _),fQ,Nat.sub_self,List.getElem?_drop,Nat.add_zero,List.getD_eq_getElem?_getD]
theorem aLn(g:Nat→Int){p:List Int}{i:Nat}(h:i<p.length):(pX g p i).set i (g i)=pX g p (i+1):=by unfold pX;rw[List.set_append_right _ _ (by rw[fQ];exact Nat.le_refl _),fQ,Nat.sub_self,dO,List.append_assoc];congr 1;rw[List.drop_eq_getElem_cons h];rfl
instance signw_cv(z:Int):CV prog 203 [.agg (cA z).toArray] (.int .i64 (if z<0 then -1 else if z=0 then 0 else 1)) True:=⟨fun _ w=>by have h1:z=18446744073709551616*(z/18446744073709551616)+z%18446744073709551616:=oo;refine aJ func203 rfl ntmps203 rfl ⟨aE,.nil⟩ (fun n=>?_);simp only[aG,cA];refine aB;all_goals exact aM rfl rfl (.nil _) ⟨congrArg (Value.int .i64) (by split<;>(try split)<;>omega),rfl⟩⟩
theorem aOi(g:bE)(A:Option Addr)(c:Nat)(Al:Option Addr)(cl:Nat)(l:List Int)(w:World)(hr:bP w (bB []) A g.p.length c 1 (aD .i64 g.p))(hrl:bP w (bB []) Al l.length cl 1 (aD .i64 l))(hp:dY g.p)(hw:Wt l)(he:l.length=g.p.length)(hn:0<g.p.length∧g.p.length≤4096)(hz0:0<cB g.p l g.p.length):
  aF prog 157 [.agg (aQ g A c).toArray,.slice Al l.length cl] [] w
   (fun v S'=>∃u,v=.tuple #[u,.agg (cA (cB g.p l g.p.length)).toArray,.int .i64 (gI l g.p.length),.int .i64 0]∧tA { g with p:=jC g.p l } u S'):=by
 obtain⟨gw,gh,gx,gy,gs,p⟩:=g;dsimp only at hr hp he hn hz0 ⊢;dsimp only[aQ];have hws:=yK hp hw he;have hmo:=zG hw;have hge:=fun i (hi:i<p.length)=>aDw hp hw he p.length (Nat.le_refl _) hi;have hwi:=fun i (hi:i<p.length)=>aOm hp hw he hz0 hi;have hwN:=hws p.length (Nat.le_refl _);have hwl:jC p l=dO (kS p l (cB p l p.length)) p.length:=rfl;have hwg:∀i,kS p l (cB p l p.length) i=p.getD i 0*l.getD i 0*1073741824/cB p l p.length:=fun _=>rfl;have hr0:=hr;have hrl0:=hrl;obtain⟨bA,oA,rfl,hRA⟩:=hr.at_ hn.1;obtain⟨bL,oL,rfl,hRL⟩:=hrl.at_ (by omega:0<l.length);refine aJ func157 rfl ntmps157 rfl ⟨aE,.nil⟩ (fun n=>?_);simp only[aG];refine aB;rename_i b2 b4 b5 _ b8;have hr2:=fun (w':World) (q:bP w' (bB []) (some ⟨bA,oA,none⟩) p.length c 1 (aD .i64 p))=>aJ7 (some ⟨bA,oA,none⟩) c p w' q oo;refine cG (X:=Nat) (fun i=>i≤p.length) (fun i=>[(1,.slice (some ⟨bL,oL,none⟩) l.length cl),(2,.pointer (some ⟨b2,0,none⟩)),(4,.pointer (some ⟨b4,0,none⟩)),(5,.pointer (some ⟨b5,0,none⟩)),(8,.pointer (some ⟨b8,0,none⟩)),(9,.int .i64 (gI l i)),(25,.slice (some ⟨bA,oA,none⟩) p.length c),(26,.int .i64 p.length),(27,.int .i64 i)])
  (fun i=>[.blk b8 266 (cA (cB p l i)),.blk b5 266 [.int .i64 0,.int .u64 0],.blk b4 126 jY,.blk b2 126 [.int .i64 gw,.int .i64 gh,.int .i64 gx,.int .i64 gy,.int .i64 gs,.slice (some ⟨bA,oA,none⟩) p.length c]]) (fun i=>p.length-i) 0 (Nat.zero_le _) ⟨rfl,rfl,rfl,rfl,rfl,rfl,rfl,rfl,rfl,trivial⟩ (by show aA [.blk b8 266 [.int .i64 0,.int .u64 0],_,_,_] _;exact aA.au) ?_
 intro i hi;rcases Nat.lt_or_ge i p.length with h|h
 ·have e1:cB p l (i+1)=cB p l i+p.getD i 0*l.getD i 0:=rfl;have e2:gI l (i+1)=max (gI l i) (l.getD i 0):=rfl;have hpi:=hp i h;have hli:=hw i oo;have hmu:=cT hpi hli;have hwsi:=hws i hi;have hmi:=hmo i oo;clear hge hwi hwg hwl hws hmo;generalize cB p l i=ws at *;generalize gI l i=mo at *;refine aB;refine fJ [] (0::1::2::3::4::5::6::7::8::9::10::11::[]) (.nil _) ?_;intro _;refine gO;all_goals
   refine aR (i+1) h (by show p.length-(i+1)<p.length-i;omega) ⟨rfl,rfl,rfl,rfl,rfl,by rw[e2];rfl,rfl,rfl,by simp[aI],trivial⟩ ?_;simp only[e1];exact aA.au
 ·obtain rfl:i=p.length:=oo;have hz1:cB p l p.length%18446744073709551616=cB p l p.length:=oo;refine aB;rw[hz1];refine lf rfl rfl rfl (S:=[]) (fun w' hw' ho=>hr2 w' ⟨hr0.h.go hw' (aC.nil _)⟩) ?_;rintro v S' ⟨A2,c2,rfl,rfl⟩;have hwN2:cB p l p.length≤288230376151711744:=oo;clear hz1;generalize cB p l p.length=z at *;generalize hg:kS p l z=g at *;refine aB;refine cG (X:=Nat) (fun i=>i≤p.length) (fun i=>[(1,.slice (some ⟨bL,oL,none⟩) l.length cl),(2,.pointer (some ⟨b2,0,none⟩)),(4,.pointer (some ⟨b4,0,none⟩)),(5,.pointer (some ⟨b5,0,none⟩)),(8,.pointer (some ⟨b8,0,none⟩)),(9,.int .i64 (gI l p.length)),(12,.int .i64 z),(78,.slice A2 p.length c2),(79,.int .i64 p.length),(80,.int .i64 i)])
   (fun i=>[.row (.slice A2 p.length c2) 2 1 p.length (aD .i64 (pX g p i)),.blk b8 266 (cA z),.blk b5 266 [.int .i64 0,.int .u64 0],.blk b4 126 jY,.blk b2 126 [.int .i64 gw,.int .i64 gh,.int .i64 gx,.int .i64 gy,.int .i64 gs,.slice A2 p.length c2]]) (fun i=>p.length-i) 0 (Nat.zero_le _) ⟨rfl,rfl,rfl,rfl,rfl,rfl,rfl,rfl,rfl,rfl,trivial⟩ (by show aA [.row (.slice A2 p.length c2) 2 1 p.length (aD .i64 p),_,_,_,_] _;exact aA.au) ?_
  intro i hi;rcases Nat.lt_or_ge i p.length with h|h
  ·have hml:=aLm g hi;have hmg:=aLl g h;have kM:=aLn g h;have hpi:=hp i h;have hli:=hw i oo;have hmu:=cT hpi hli;have hgi:=hwi i h;have hgz:=hwg i;have iD:=aAv (p.getD i 0*l.getD i 0) 1073741824 z 0;rw[aAi hz0,← hgz]at iD;obtain⟨R,hR⟩:∃R,pX g p i=R:=⟨_,rfl⟩;rw[hR]at hml hmg kM ⊢;have iE:rI (aD .i64 R) i (.int .i64 (p.getD i 0)) True:=⟨fun _=>by rw[← hmg];exact(inferInstance:rI (aD .i64 R) i (.int .i64 (R.getD i 0)) (i<R.length)).h oo⟩;refine zB (A:=A2) (m:=p.length) (cc:=c2) oo (fun g2 hg2=>?_);subst hg2;clear hwi hwg hge hws hmo;refine aB;refine fJ [] (0::1::2::3::4::5::6::7::8::9::10::11::12::13::14::15::[]) (.nil _) ?_;intro _;refine gO;all_goals
    refine aR (i+1) h (by show p.length-(i+1)<p.length-i;omega) ⟨rfl,rfl,rfl,rfl,rfl,rfl,rfl,rfl,rfl,by simp[aI],trivial⟩ ?_;rw[← kM];exact aA.au
  ·obtain rfl:i=p.length:=oo;rw[aLk];refine aB;refine fJ _ (0::1::2::3::4::5::6::[]) (aA.cons (.there _ (.here _ _)) (aA.cons (.there _ (.there _ (.there _ (.here _ _)))) (aA.nil _))) ?_;intro _;refine jR;all_goals
    refine eC (S':=[.row (.slice A2 p.length c2) 2 1 p.length (aD .i64 (dO g p.length))]) aA.au ?_;refine cZ;refine⟨_,rfl,A2,c2,?_,?_⟩
    ·dsimp only[aQ];rw[hwl,fQ]
    ·dsimp only;rw[hwl,fQ]
