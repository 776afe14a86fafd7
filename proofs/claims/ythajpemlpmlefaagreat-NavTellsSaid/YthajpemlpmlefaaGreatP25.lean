import Derived.Laws.Cover3
import Derived.Test.YthajpemlpmlefaaGreatP23
import Derived.Test.YthajpemlpmlefaaGreatP24
set_option maxHeartbeats 512000000
set_option maxRecDepth 4000
set_option linter.unusedVariables false
set_option linter.unusedSimpArgs false
namespace Go.Proofs.YthajpemlpmlefaaGreat
open Go.RowKit
section
variable {P:Program} {w0:World} {W:Nat→Prop} {H:List HE}
theorem run_eqlS(w:World){t e:TypeId}(a:Option Addr)(l c:Nat)(h:P.underlying t=some (.slice e)):(binOp .eql t (.slice a l c) (.slice none 0 0)).run P w=.ok (.bool a.isNone) w:=by
 simp only[binOp]
 simp[run_equal_slice_nil w t e a l c h]
instance (t u e:TypeId)(x y:Operand)(a:Addr)(l c:Nat)[hu:Und P t (.slice e)]:MS P w0 W H (.binOp .eql t x y u) [.slice (some a) l c,.slice none 0 0] (.bool false) True :=
 ⟨fun _ _ _ _ _ _ _ _ _ _ _ _ _ _ h1 h2 h3=>o_val (by simp) rfl h2 (fun a w ha hw=>by
  obtain⟨p,q⟩:=vals2 h1
  simp[execOp,ha.eval p,ha.eval q,eqGuard,run_eqlS w _ _ _ hu.h]) h3⟩
end
attribute [local irreducible] OJ J HdJ Code.wpIn wpListIn Oper.wpIn bodyPost CallsIn Does
theorem clone_any(A:Option Addr)(c:Nat)(l:List Int)(w:World)(hr:RoA w (blocks []) A l.length c 1 (ints .i64 l))(hl:0<l.length∧l.length≤1000000):Does Tryz.prog 186 [.slice A l.length c] [] w
  (fun v S'=>∃A' c',v=.slice A' l.length c'∧S'=[.row (.slice A' l.length c') 2 1 l.length (ints .i64 l)]):=by
 obtain⟨bL,oL,rfl,hRL⟩:=hr.at_ hl.1
 refine does_of Tryz.func186 rfl Tryz.ntmps186 rfl ⟨by simp,.nil⟩ (fun n=>?_)
 simp only[slots]
 refine z_tas
 exact j_out1 rfl rfl Sub.au ⟨_,_,rfl,rfl⟩
def mixL(g:Nat→Int)(p:List Int)(i:Nat):List Int:=tab g i++p.drop i
theorem mix_len(g:Nat→Int){p:List Int}{i:Nat}(h:i≤p.length):(mixL g p i).length=p.length:=by
 unfold mixL
 rw[List.length_append,tab_len,List.length_drop]
 omega
theorem mix_all(g:Nat→Int)(p:List Int):mixL g p p.length=tab g p.length:=by unfold mixL;rw[List.drop_length,List.append_nil]
theorem mix_get(g:Nat→Int){p:List Int}{i:Nat}(h:i<p.length):(mixL g p i).getD i 0=p.getD i 0:=by
 unfold mixL
 rw[List.getD_eq_getElem?_getD,List.getElem?_append_right (by rw[tab_len];exact Nat.le_refl _),tab_len,Nat.sub_self,List.getElem?_drop,Nat.add_zero,List.getD_eq_getElem?_getD]
theorem mix_set(g:Nat→Int){p:List Int}{i:Nat}(h:i<p.length):(mixL g p i).set i (g i)=mixL g p (i+1):=by
 unfold mixL
 rw[List.set_append_right _ _ (by rw[tab_len];exact Nat.le_refl _),tab_len,Nat.sub_self,tab,List.append_assoc]
 congr 1
 rw[List.drop_eq_getElem_cons h]
 rfl
instance signw_cv(z:Int):CV Tryz.prog 185 [.agg (wideV z).toArray] (.int .i64 (if z<0 then -1 else if z=0 then 0 else 1)) True:=⟨fun _ w=>by
 have h1:z=18446744073709551616*(z/18446744073709551616)+z%18446744073709551616:=by omega
 refine does_of Tryz.func185 rfl Tryz.ntmps185 rfl ⟨by simp,.nil⟩ (fun n=>?_)
 simp only[slots,wideV]
 refine z_tas
 all_goals exact j_out1 rfl rfl (.nil _) ⟨congrArg (Value.int .i64) (by split<;>(try split)<;>omega),rfl⟩⟩
theorem weigh_any(g:Grd)(A:Option Addr)(c:Nat)(Al:Option Addr)(cl:Nat)(l:List Int)(w:World)(hr:RoA w (blocks []) A g.p.length c 1 (ints .i64 g.p))(hrl:RoA w (blocks []) Al l.length cl 1 (ints .i64 l))(hp:Pos30 g.p)(hw:Wt l)(he:l.length=g.p.length)(hn:0<g.p.length∧g.p.length≤4096)(hz0:0<wsTo g.p l g.p.length):
  Does Tryz.prog 134 [.agg (grE g A c).toArray,.slice Al l.length cl] [] w
   (fun v S'=>∃u,v=.tuple #[u,.agg (wideV (wsTo g.p l g.p.length)).toArray,.int .i64 (mostTo l g.p.length),.int .i64 0]∧GrR { g with p:=wghL g.p l } u S'):=by
 obtain⟨gw,gh,gx,gy,gs,p⟩:=g
 dsimp only at hr hp he hn hz0 ⊢
 dsimp only[grE]
 have hws:=ws_in hp hw he
 have hmo:=most_in hw
 have hge:=fun i (hi:i<p.length)=>ws_ge hp hw he p.length (Nat.le_refl _) hi
 have hwi:=fun i (hi:i<p.length)=>wgh_in hp hw he hz0 hi
 have hwN:=hws p.length (Nat.le_refl _)
 have hwl:wghL p l=tab (wgh p l (wsTo p l p.length)) p.length:=rfl
 have hwg:∀i,wgh p l (wsTo p l p.length) i=p.getD i 0*l.getD i 0*1073741824/wsTo p l p.length:=fun _=>rfl
 have hr0:=hr
 have hrl0:=hrl
 obtain⟨bA,oA,rfl,hRA⟩:=hr.at_ hn.1
 obtain⟨bL,oL,rfl,hRL⟩:=hrl.at_ (by omega:0<l.length)
 refine does_of Tryz.func134 rfl Tryz.ntmps134 rfl ⟨by simp,.nil⟩ (fun n=>?_)
 simp only[slots]
 refine z_tas
 rename_i b2 b4 b5 _ b8
 have hr2:=fun (w':World) (q:RoA w' (blocks []) (some ⟨bA,oA,none⟩) p.length c 1 (ints .i64 p))=>clone_any (some ⟨bA,oA,none⟩) c p w' q (by omega)
 refine c_loop (X:=Nat) (fun i=>i≤p.length) (fun i=>[(1,.slice (some ⟨bL,oL,none⟩) l.length cl),(2,.pointer (some ⟨b2,0,none⟩)),(4,.pointer (some ⟨b4,0,none⟩)),(5,.pointer (some ⟨b5,0,none⟩)),(8,.pointer (some ⟨b8,0,none⟩)),(9,.int .i64 (mostTo l i)),(25,.slice (some ⟨bA,oA,none⟩) p.length c),(26,.int .i64 p.length),(27,.int .i64 i)])
  (fun i=>[.blk b8 238 (wideV (wsTo p l i)),.blk b5 238 [.int .i64 0,.int .u64 0],.blk b4 63 grN,.blk b2 63 [.int .i64 gw,.int .i64 gh,.int .i64 gx,.int .i64 gy,.int .i64 gs,.slice (some ⟨bA,oA,none⟩) p.length c]]) (fun i=>p.length-i) 0 (Nat.zero_le _) ⟨rfl,rfl,rfl,rfl,rfl,rfl,rfl,rfl,rfl,trivial⟩ (by show Sub [.blk b8 238 [.int .i64 0,.int .u64 0],_,_,_] _;exact Sub.au) ?_
 intro i hi
 rcases Nat.lt_or_ge i p.length with h|h
 ·have e1:wsTo p l (i+1)=wsTo p l i+p.getD i 0*l.getD i 0:=rfl
  have e2:mostTo l (i+1)=max (mostTo l i) (l.getD i 0):=rfl
  have hpi:=hp i h
  have hli:=hw i (by omega)
  have hmu:=mul_in hpi hli
  have hwsi:=hws i hi
  have hmi:=hmo i (by omega)
  clear hge hwi hwg hwl hws hmo
  generalize wsTo p l i=ws at *
  generalize mostTo l i=mo at *
  refine z_tas
  refine c_dvL [] (0::1::2::3::4::5::6::7::8::9::10::11::[]) (.nil _) ?_;intro _
  refine z_govG
  all_goals
   refine c_round (i+1) h (by show p.length-(i+1)<p.length-i;omega) ⟨rfl,rfl,rfl,rfl,rfl,by rw[e2];rfl,rfl,rfl,by simp[look],trivial⟩ ?_
   simp only[e1]
   exact Sub.au
 ·obtain rfl:i=p.length:=by omega
  have hz1:wsTo p l p.length%18446744073709551616=wsTo p l p.length:=by omega
  refine z_tas
  rw[hz1]
  refine lf rfl rfl rfl (S:=[]) (fun w' hw' ho=>hr2 w' ⟨hr0.h.go hw' (Split.nil _)⟩) ?_
  rintro v S' ⟨A2,c2,rfl,rfl⟩
  have hwN2:wsTo p l p.length≤288230376151711744:=by omega
  clear hz1
  generalize wsTo p l p.length=z at *
  generalize hg:wgh p l z=g at *
  refine z_tas
  refine c_loop (X:=Nat) (fun i=>i≤p.length) (fun i=>[(1,.slice (some ⟨bL,oL,none⟩) l.length cl),(2,.pointer (some ⟨b2,0,none⟩)),(4,.pointer (some ⟨b4,0,none⟩)),(5,.pointer (some ⟨b5,0,none⟩)),(8,.pointer (some ⟨b8,0,none⟩)),(9,.int .i64 (mostTo l p.length)),(12,.int .i64 z),(78,.slice A2 p.length c2),(79,.int .i64 p.length),(80,.int .i64 i)])
   (fun i=>[.row (.slice A2 p.length c2) 2 1 p.length (ints .i64 (mixL g p i)),.blk b8 238 (wideV z),.blk b5 238 [.int .i64 0,.int .u64 0],.blk b4 63 grN,.blk b2 63 [.int .i64 gw,.int .i64 gh,.int .i64 gx,.int .i64 gy,.int .i64 gs,.slice A2 p.length c2]]) (fun i=>p.length-i) 0 (Nat.zero_le _) ⟨rfl,rfl,rfl,rfl,rfl,rfl,rfl,rfl,rfl,rfl,trivial⟩ (by show Sub [.row (.slice A2 p.length c2) 2 1 p.length (ints .i64 p),_,_,_,_] _;exact Sub.au) ?_
  intro i hi
  rcases Nat.lt_or_ge i p.length with h|h
  ·have hml:=mix_len g hi
   have hmg:=mix_get g h
   have hms:=mix_set g h
   have hpi:=hp i h
   have hli:=hw i (by omega)
   have hmu:=mul_in hpi hli
   have hgi:=hwi i h
   have hgz:=hwg i
   have iD:=muldiv_cv (p.getD i 0*l.getD i 0) 1073741824 z 0
   rw[divV_down hz0,← hgz]at iD
   obtain⟨R,hR⟩:∃R,mixL g p i=R:=⟨_,rfl⟩
   rw[hR]at hml hmg hms ⊢
   have iE:Elem (ints .i64 R) i (.int .i64 (p.getD i 0)) True:=⟨fun _=>by rw[← hmg];exact(inferInstance:Elem (ints .i64 R) i (.int .i64 (R.getD i 0)) (i<R.length)).h (by omega)⟩
   refine j_opn (A:=A2) (m:=p.length) (cc:=c2) (by omega) (fun g2 hg2=>?_)
   subst hg2
   clear hwi hwg hge hws hmo
   refine z_tas
   refine c_dvL [] (0::1::2::3::4::5::6::7::8::9::10::11::12::13::14::15::[]) (.nil _) ?_;intro _
   refine z_govG
   all_goals
    refine c_round (i+1) h (by show p.length-(i+1)<p.length-i;omega) ⟨rfl,rfl,rfl,rfl,rfl,rfl,rfl,rfl,rfl,by simp[look],trivial⟩ ?_
    rw[← hms]
    exact Sub.au
  ·obtain rfl:i=p.length:=by omega
   rw[mix_all]
   refine z_tas
   refine c_dvL _ (0::1::2::3::4::5::6::[]) (Sub.cons (.there _ (.here _ _)) (Sub.cons (.there _ (.there _ (.there _ (.here _ _)))) (Sub.nil _))) ?_
   intro _
   refine z_gvs
   all_goals
    refine j_outK (S':=[.row (.slice A2 p.length c2) 2 1 p.length (ints .i64 (tab g p.length))]) Sub.au ?_
    refine z_rk
    refine⟨_,rfl,A2,c2,?_,?_⟩
    ·dsimp only[grE]
     rw[hwl,tab_len]
    ·dsimp only
     rw[hwl,tab_len]
end Go.Proofs.YthajpemlpmlefaaGreat
