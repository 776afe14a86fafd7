import Derived.Laws.Cover3
import Derived.Test.YtpmkboockihdbaaGreatP23
import Derived.Test.YtpmkboockihdbaaGreatP24
set_option maxHeartbeats 512000000
set_option maxRecDepth 4000
set_option linter.unusedVariables false
set_option linter.unusedSimpArgs false
namespace Go.Proofs.YtpmkboockihdbaaGreat
open Go.RowKit _root_.Go.Proofs.Tryz
section
variable {P:Program} {w0:World} {W:Nat→Prop} {H:List HE}
theorem bAp(w:World){t e:TypeId}(a:Option Addr)(l c:Nat)(h:P.underlying t=some (.slice e)):(binOp .eql t (.slice a l c) (.slice none 0 0)).run P w=.ok (.bool a.isNone) w:=by simp only[binOp];simp[run_equal_slice_nil w t e a l c h]
instance (t u e:TypeId)(x y:Operand)(a:Addr)(l c:Nat)[hu:aO P t (.slice e)]:MS P w0 W H (.binOp .eql t x y u) [.slice (some a) l c,.slice none 0 0] (.bool false) True :=
 ⟨fun _ _ _ _ _ _ _ _ _ _ _ _ _ _ h1 h2 h3=>dS aE rfl h2 (fun a w ha hw=>by obtain⟨p,q⟩:=dH h1;simp[execOp,ha.eval p,ha.eval q,eqGuard,bAp w _ _ _ hu.h]) h3⟩
end
attribute [local irreducible] OJ J bO Code.wpIn wpListIn Oper.wpIn bodyPost CallsIn aF
theorem aJz(A:Option Addr)(c:Nat)(l:List Int)(w:World)(hr:bF w (aV []) A l.length c 1 (aC .i64 l))(hl:0<l.length∧l.length≤1000000):aF prog 236 [.slice A l.length c] [] w
  (fun v S'=>∃A' c',v=.slice A' l.length c'∧S'=[.row (.slice A' l.length c') 2 1 l.length (aC .i64 l)]):=by
 obtain⟨bL,oL,rfl,hRL⟩:=hr.at_ hl.1;refine aJ func236 rfl ntmps236 rfl ⟨aE,.nil⟩ (fun n=>?_);simp only[aG];refine aB;exact aK rfl rfl aA.au ⟨_,_,rfl,rfl⟩
def rA(g:Nat→Int)(p:List Int)(i:Nat):List Int:=cA g i++p.drop i
theorem aMd(g:Nat→Int){p:List Int}{i:Nat}(h:i≤p.length):(rA g p i).length=p.length:=by unfold rA;rw[List.length_append,eP,List.length_drop];omega
theorem aMb(g:Nat→Int)(p:List Int):rA g p p.length=cA g p.length:=by unfold rA;rw[List.drop_length,List.append_nil]
theorem aMc(g:Nat→Int){p:List Int}{i:Nat}(h:i<p.length):(rA g p i).getD i 0=p.getD i 0:=by unfold rA;rw[List.getD_eq_getElem?_getD,List.getElem?_append_right (by rw[eP];exact Nat.le_refl _),eP,Nat.sub_self,List.getElem?_drop,Nat.add_zero,List.getD_eq_getElem?_getD]
theorem aMe(g:Nat→Int){p:List Int}{i:Nat}(h:i<p.length):(rA g p i).set i (g i)=rA g p (i+1):=by unfold rA;rw[List.set_append_right _ _ (by rw[eP];exact Nat.le_refl _),eP,Nat.sub_self,cA,List.append_assoc];congr 1;rw[List.drop_eq_getElem_cons h];rfl
instance signw_cv(z:Int):CV prog 235 [.agg (cH z).toArray] (.int .i64 (if z<0 then -1 else if z=0 then 0 else 1)) True:=⟨fun _ w=>by have h1:z=18446744073709551616*(z/18446744073709551616)+z%18446744073709551616:=oo;refine aJ func235 rfl ntmps235 rfl ⟨aE,.nil⟩ (fun n=>?_);simp only[aG,cH];refine aB;all_goals exact aK rfl rfl (.nil _) ⟨congrArg (Value.int .i64) (by split<;>(try split)<;>omega),rfl⟩⟩
theorem aPd(g:bE)(A:Option Addr)(c:Nat)(Al:Option Addr)(cl:Nat)(l:List Int)(w:World)(hr:bF w (aV []) A g.p.length c 1 (aC .i64 g.p))(hrl:bF w (aV []) Al l.length cl 1 (aC .i64 l))(hp:dI g.p)(hw:Wt l)(he:l.length=g.p.length)(hn:0<g.p.length∧g.p.length≤4096)(hz0:0<cK g.p l g.p.length):
  aF prog 186 [.agg (aQ g A c).toArray,.slice Al l.length cl] [] w
   (fun v S'=>∃u,v=.tuple #[u,.agg (cH (cK g.p l g.p.length)).toArray,.int .i64 (jA l g.p.length),.int .i64 0]∧tT { g with p:=jX g.p l } u S'):=by
 obtain⟨gw,gh,gx,gy,gs,p⟩:=g;dsimp only at hr hp he hn hz0 ⊢;dsimp only[aQ];have hws:=zH hp hw he;have hmo:=aA0 hw;have hge:=fun i (hi:i<p.length)=>aEi hp hw he p.length (Nat.le_refl _) hi;have hwi:=fun i (hi:i<p.length)=>aPg hp hw he hz0 hi;have hwN:=hws p.length (Nat.le_refl _);have hwl:jX p l=cA (lO p l (cK p l p.length)) p.length:=rfl;have hwg:∀i,lO p l (cK p l p.length) i=p.getD i 0*l.getD i 0*1073741824/cK p l p.length:=fun _=>rfl;have hr0:=hr;have hrl0:=hrl;obtain⟨bA,oA,rfl,hRA⟩:=hr.at_ hn.1;obtain⟨bL,oL,rfl,hRL⟩:=hrl.at_ (by omega:0<l.length);refine aJ func186 rfl ntmps186 rfl ⟨aE,.nil⟩ (fun n=>?_);simp only[aG];refine aB;rename_i b2 b4 b5 _ b8;have hr2:=fun (w':World) (q:bF w' (aV []) (some ⟨bA,oA,none⟩) p.length c 1 (aC .i64 p))=>aJz (some ⟨bA,oA,none⟩) c p w' q oo;refine bT (X:=Nat) (fun i=>i≤p.length) (fun i=>[(1,.slice (some ⟨bL,oL,none⟩) l.length cl),(2,.pointer (some ⟨b2,0,none⟩)),(4,.pointer (some ⟨b4,0,none⟩)),(5,.pointer (some ⟨b5,0,none⟩)),(8,.pointer (some ⟨b8,0,none⟩)),(9,.int .i64 (jA l i)),(25,.slice (some ⟨bA,oA,none⟩) p.length c),(26,.int .i64 p.length),(27,.int .i64 i)])
  (fun i=>[.blk b8 258 (cH (cK p l i)),.blk b5 258 [.int .i64 0,.int .u64 0],.blk b4 37 kD,.blk b2 37 [.int .i64 gw,.int .i64 gh,.int .i64 gx,.int .i64 gy,.int .i64 gs,.slice (some ⟨bA,oA,none⟩) p.length c]]) (fun i=>p.length-i) 0 (Nat.zero_le _) ⟨rfl,rfl,rfl,rfl,rfl,rfl,rfl,rfl,rfl,trivial⟩ (by show aA [.blk b8 258 [.int .i64 0,.int .u64 0],_,_,_] _;exact aA.au) ?_
 intro i hi;rcases Nat.lt_or_ge i p.length with h|h
 ·have e1:cK p l (i+1)=cK p l i+p.getD i 0*l.getD i 0:=rfl;have e2:jA l (i+1)=max (jA l i) (l.getD i 0):=rfl;have hpi:=hp i h;have hli:=hw i oo;have hmu:=cN hpi hli;have hwsi:=hws i hi;have hmi:=hmo i oo;clear hge hwi hwg hwl hws hmo;generalize cK p l i=ws at *;generalize jA l i=mo at *;refine aB;refine fL [] (0::1::2::3::4::5::6::7::8::9::10::11::[]) (.nil _) ?_;intro _;refine gP;all_goals
   refine aN (i+1) h (by show p.length-(i+1)<p.length-i;omega) ⟨rfl,rfl,rfl,rfl,rfl,by rw[e2];rfl,rfl,rfl,by simp[aH],trivial⟩ ?_;simp only[e1];exact aA.au
 ·obtain rfl:i=p.length:=oo;have hz1:cK p l p.length%18446744073709551616=cK p l p.length:=oo;refine aB;rw[hz1];refine lf rfl rfl rfl (S:=[]) (fun w' hw' ho=>hr2 w' ⟨hr0.h.go hw' (aD.nil _)⟩) ?_;rintro v S' ⟨A2,c2,rfl,rfl⟩;have hwN2:cK p l p.length≤288230376151711744:=oo;clear hz1;generalize cK p l p.length=z at *;generalize hg:lO p l z=g at *;refine aB;refine bT (X:=Nat) (fun i=>i≤p.length) (fun i=>[(1,.slice (some ⟨bL,oL,none⟩) l.length cl),(2,.pointer (some ⟨b2,0,none⟩)),(4,.pointer (some ⟨b4,0,none⟩)),(5,.pointer (some ⟨b5,0,none⟩)),(8,.pointer (some ⟨b8,0,none⟩)),(9,.int .i64 (jA l p.length)),(12,.int .i64 z),(78,.slice A2 p.length c2),(79,.int .i64 p.length),(80,.int .i64 i)])
   (fun i=>[.row (.slice A2 p.length c2) 2 1 p.length (aC .i64 (rA g p i)),.blk b8 258 (cH z),.blk b5 258 [.int .i64 0,.int .u64 0],.blk b4 37 kD,.blk b2 37 [.int .i64 gw,.int .i64 gh,.int .i64 gx,.int .i64 gy,.int .i64 gs,.slice A2 p.length c2]]) (fun i=>p.length-i) 0 (Nat.zero_le _) ⟨rfl,rfl,rfl,rfl,rfl,rfl,rfl,rfl,rfl,rfl,trivial⟩ (by show aA [.row (.slice A2 p.length c2) 2 1 p.length (aC .i64 p),_,_,_,_] _;exact aA.au) ?_
  intro i hi;rcases Nat.lt_or_ge i p.length with h|h
  ·have hml:=aMd g hi;have hmg:=aMc g h;have lJ:=aMe g h;have hpi:=hp i h;have hli:=hw i oo;have hmu:=cN hpi hli;have hgi:=hwi i h;have hgz:=hwg i;have iD:=aBh (p.getD i 0*l.getD i 0) 1073741824 z 0;rw[aB0 hz0,← hgz]at iD;obtain⟨R,hR⟩:∃R,rA g p i=R:=⟨_,rfl⟩;rw[hR]at hml hmg lJ ⊢;have iE:rM (aC .i64 R) i (.int .i64 (p.getD i 0)) True:=⟨fun _=>by rw[← hmg];exact(inferInstance:rM (aC .i64 R) i (.int .i64 (R.getD i 0)) (i<R.length)).h oo⟩;refine uI (A:=A2) (m:=p.length) (cc:=c2) oo (fun g2 hg2=>?_);subst hg2;clear hwi hwg hge hws hmo;refine aB;refine fL [] (0::1::2::3::4::5::6::7::8::9::10::11::12::13::14::15::[]) (.nil _) ?_;intro _;refine gP;all_goals
    refine aN (i+1) h (by show p.length-(i+1)<p.length-i;omega) ⟨rfl,rfl,rfl,rfl,rfl,rfl,rfl,rfl,rfl,by simp[aH],trivial⟩ ?_;rw[← lJ];exact aA.au
  ·obtain rfl:i=p.length:=oo;rw[aMb];refine aB;refine fL _ (0::1::2::3::4::5::6::[]) (aA.cons (.there _ (.here _ _)) (aA.cons (.there _ (.there _ (.there _ (.here _ _)))) (aA.nil _))) ?_;intro _;refine jY;all_goals
    refine eD (S':=[.row (.slice A2 p.length c2) 2 1 p.length (aC .i64 (cA g p.length))]) aA.au ?_;refine cY;refine⟨_,rfl,A2,c2,?_,?_⟩
    ·dsimp only[aQ];rw[hwl,eP]
    ·dsimp only;rw[hwl,eP]
