import Derived.Laws.ResultCell
import Derived.Laws.Rows
import Derived.Laws.Tables
import Derived.Test.YtbhchphfmhmabaaGreatP11
set_option maxHeartbeats 512000000
set_option maxRecDepth 4000
set_option linter.unusedVariables false
set_option linter.unusedSimpArgs false
namespace Go.Proofs.YtbhchphfmhmabaaGreat
open Go.RowKit
theorem aQ6{wd:Nat}(hw:0<wd){z zs:List Int}(hl:zs.length=z.length)(h1:fD z)(h2:fD zs)(he:dJ (eZ (dZ zs wd))=dJ (eZ (dZ z wd))):zs=z:=by
 have hat:eX (dJ (eZ (dZ z wd))) 0 (eZ (dZ zs wd)):=by rw[← he];exact aAm _
 have e:=aH8 (aAm (eZ (dZ z wd))) hat (by rw[uP,uP,hl]) (aAh h1 wd) (aAh h2 wd);have:=aJq hw zs z oo (fun j hj=>by rw[← xQ zs wd j hj,e,xQ z wd j oo]) zs.length (Nat.le_refl _);rw[List.take_of_length_le (Nat.le_refl zs.length),hl,List.take_of_length_le (Nat.le_refl z.length)]at this;exact this.symm
theorem aYj{a b:Int}{z:List Int}(h:vE a b=true∧(z.length:Int)=a*b):vD a b z=some (dJ (eZ (dZ z a.toNat)))∧zL a b z=0:=⟨if_pos h,if_pos h⟩
theorem aA.appR:∀(T L:List HE),aA L (T++L)
 | [],L=>aA.refl L
 | y::r,L=>(aA.appR r L).skip y
theorem aZz{P:Program}{fn:Func}{p u:Tmp}{ty:TypeId}(h:fn.results=#[.cell p ty,.tmp u])(tmps:Array Value)(w:World)(g:Nat)(t:TypeId)(cs:Array Value)(fr:Nat×Nat)(d:TypeDesc)
  (hp:tmps.getD p undef=.pointer (some ⟨g,0,none⟩)) (hg:w.heap[g]? = some (.cells cs t fr))
  (hu:P.underlying ty=some d) (hd:(match d with | .struct _ | .array _ _=>true|_=>false)=true) (hi:(P.info? ty).map (·.size)=some cs.size) :
  (results fn tmps).run P w=.ok (.tuple #[.agg cs,tmps.getD u undef]) w:=by
 rw[results_cell_tmp h,hp];simp only[asAddr,Sem.run_pure,Result.andThen_ok,run_loadVar_row w g t ty cs fr d hg hu hd hi]
theorem setRow_heap{w:World}{g:Nat}{t:TypeId}{old:Array Value}(h:w.heap[g]? = some (.cells old t (0,0)))(cs:Array Value):(w.setRow g cs).heap[g]? = some (.cells cs t (0,0)):=by simp[World.setRow,Array.getElem?_modify,h]
theorem setRow_other{w:World}{g k:Nat}(cs:Array Value)(h:k≠g):(w.setRow g cs).heap[k]? = w.heap[k]?:=by simp only[World.setRow,Array.getElem?_modify];rw[if_neg oo]
theorem aQg{B g:Nat}{a w:World}(h:Below B a w)(hg:B≤g)(cs:Array Value):Below B a (w.setRow g cs) :=
 h.trans ⟨rfl,rfl,rfl,by simp[World.setRow],fun k hk=>setRow_other cs oo⟩
theorem aUi{w:World}{k:Nat}(ob:Obj)(h:k=w.heap.size):(w.alloc ob).heap[k]? = some ob:=by subst h;exact heap_alloc_new w ob
