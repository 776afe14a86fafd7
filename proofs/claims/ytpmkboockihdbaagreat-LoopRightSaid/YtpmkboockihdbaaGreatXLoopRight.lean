import Derived.Test.YtpmkboockihdbaaGreatP53
set_option maxHeartbeats 512000000
set_option maxRecDepth 4000
set_option linter.unusedVariables false
set_option linter.unusedSimpArgs false
namespace Go.Proofs.YtpmkboockihdbaaGreat
open Go.RowKit
theorem aF.calls{P:Program}{f:FuncId}{args:List Value}{S:List HE}{w:World}{Rl:Value→List HE→Prop}(h:aF P f args S w Rl):Calls P f args.toArray w (oN S w Rl):=callsIn_wide.1 (h 0)
section
variable {F:Fence} {n:Nat} {P:Program} {N:Nat} {ds:List Deferred} {w0:World} {W:Nat→Prop} {σ:List (Nat×Value)} {H R:List HE} {Q:Exit→Act→World→Prop} {K:Act→World→Prop}
variable {d:Nat} {ty:TypeId} {pos:String} {aft:Array Edge} {gd:Option (Nat×Bool)} {o:Oper}
class Ff(P:Program)(s f:Nat)(off fty:outParam Nat):Prop where h:∃fs fld,P.underlying s=some (.struct fs)∧fs[f]? = some fld∧fld.type=fty∧fld.offset=off
theorem bE6[aX F]{s f off fty:Nat}{dd:TypeDesc}{x:Operand}{cs:Array Value}{v:Value}[hf:Ff P s f off fty][aO P fty dd](hx:ev σ x=some (.agg cs))(ha:oP dd=false)(hc:cs[off]? = some v)(hdN:Nat.blt d N=true)
  (h:J N ds w0 W ((d,v)::σ) H K):OJ F n P N ds w0 W σ H ⟨some d,.field s x f,ty,pos,aft,gd⟩ K Q :=
 dS aE rfl hdN (fun a w ha' _=>by
  obtain⟨fs,fld,h1,h2,h3,h4⟩:=hf.h;have hu:=aO.h (P:=P) (t:=fty);have hagg:(isAgg fld.type).run P w=.ok false w:=by unfold isAgg;rw[h3,Sem.run_bind,run_underlying hu w];cases dd<;>simp[oP]at ha<;>rfl
  simp[execOp,ha'.eval hx,Instr.field,run_underlying h1,h2,asAgg,part,hagg,h4,hc]) h
end
section
variable (P:Program) (w0:World) (W:Nat→Prop) (H:List HE)
end
section
variable {P:Program} {w0:World} {W:Nat→Prop} {H:List HE}
instance (s f off fty:Nat)(dd:TypeDesc)(x:Operand)(cs:List Value)(v:Value)[Ff P s f off fty][aO P fty dd][hd:qN dd][hg:cZ cs off v]:MS P w0 W H (.field s x f) [.agg cs.toArray] v True :=
 ⟨fun _ _ _ _ _ _ _ _ _ _ _ _ _ _ h1 h2 h3=>bE6 (off:=off) (kW rfl h1) hd.h (by simpa using hg.h) h2 h3⟩
end
section
variable {F:Fence} {n:Nat} {P:Program} {Q:Exit→Act→World→Prop} {k:Act→World→Prop}
end
section
variable {F:Fence} {n:Nat} {P:Program} {N:Nat} {ds:List Deferred} {w0:World} {W:Nat→Prop} {σ:List (Nat×Value)} {H:List HE} {Q:Exit→Act→World→Prop} {k k':Act→World→Prop}
variable {ops:Array Oper} {rest:List Oper} {d:Nat} {op:Op} {ty:TypeId} {pos:String} {aft:Array Edge} {gd:Option (Nat×Bool)} {vs:List Value} {v:Value} {c:Prop} {H':List HE}
end
section
variable {F:Fence} {n:Nat} {P:Program} {N:Nat} {ds:List Deferred} {w0:World} {W:Nat→Prop} {σ:List (Nat×Value)} {H:List HE} {Q:Exit→Act→World→Prop} {k k':Act→World→Prop}
variable {ops:Array Oper} {rest:List Oper} {d:Nat} {op:Op} {ty:TypeId} {pos:String} {aft:Array Edge} {gd:Option (Nat×Bool)} {vs:List Value} {v:Value} {c:Prop} {H':List HE}
end
section
variable {P:Program}
instance (t u:TypeId)(x y:Operand)(k:IntKind)(a b:Int):PV P (.binOp .neq t x y u) [.int k a,.int k b] (.bool (a != b)) True:=⟨fun _=>yY rfl⟩
end
end Go.Proofs.YtpmkboockihdbaaGreat
namespace Go.Proofs.YtpmkboockihdbaaGreat
open Go _root_.Go.Proofs.Tryz
instance:bH prog 111 4 32 (.agg #[Value.int IntKind.i64 0,Value.int IntKind.i64 0,Value.int IntKind.i64 0,Value.bool false]):=dN Tryz.t111
instance:bH prog 113 8 64 (.agg #[.pointer none,Value.int IntKind.i64 0,Value.int IntKind.i64 0,Value.int IntKind.i64 0,Value.bool false,Value.int IntKind.i64 0,Value.int IntKind.i64 0,Value.int IntKind.i64 0]):=dN Tryz.t113
instance:aO prog 86 (.pointer 113):=⟨underlying86⟩
instance:Pl prog 25 [(0,1),(1,1),(2,1)]:=⟨_,underlying25,fun w=>by kernel_rfl⟩
instance:Ff prog 44 0 0 2:=⟨_,_,underlying44,rfl,rfl,rfl⟩
instance:Ff prog 44 1 1 2:=⟨_,_,underlying44,rfl,rfl,rfl⟩
instance:Pl prog 48 [(0,1),(1,1),(2,1),(3,1)]:=⟨_,underlying48,fun w=>by kernel_rfl⟩
instance:Pl prog 50 [(0,1),(1,1),(2,1),(3,1),(4,1),(5,1)]:=⟨_,underlying50,fun w=>by kernel_rfl⟩
instance:Pl prog 52 [(0,4),(4,6),(10,3),(13,1),(14,1),(15,1),(16,1),(17,1),(18,1),(19,1),(20,1),(21,1),(22,1)]:=⟨_,underlying52,fun w=>by kernel_rfl⟩
instance:Fa prog 67 5 5:=aW Tryz.t21 underlying67 rfl
instance:Pl prog 111 [(0,1),(1,1),(2,1),(3,1)]:=⟨_,underlying111,fun w=>by kernel_rfl⟩
instance:Fa prog 111 0 0:=aW Tryz.t2 underlying111 rfl
instance:Fa prog 111 1 1:=aW Tryz.t2 underlying111 rfl
instance:Fa prog 111 2 2:=aW Tryz.t2 underlying111 rfl
instance:Fa prog 111 3 3:=aW Tryz.t4 underlying111 rfl
instance:Pl prog 113 [(0,1),(1,4),(5,1),(6,1),(7,1)]:=⟨_,underlying113,fun w=>by kernel_rfl⟩
instance:Fa prog 113 0 0:=aW Tryz.t61 underlying113 rfl
instance:Fa prog 113 1 1:=aW Tryz.t111 underlying113 rfl
instance:Fa prog 113 2 5:=aW Tryz.t2 underlying113 rfl
instance:Fa prog 113 3 6:=aW Tryz.t3 underlying113 rfl
instance:Fa prog 113 4 7:=aW Tryz.t3 underlying113 rfl
instance:Cl prog 11:=⟨call11⟩
instance:Cl prog 18:=⟨call18⟩
instance:Cl prog 20:=⟨call20⟩
instance:Cl prog 21:=⟨call21⟩
instance:Cl prog 25:=⟨call25⟩
instance:Cl prog 29:=⟨call29⟩
instance:Cl prog 30:=⟨call30⟩
instance:Cl prog 31:=⟨call31⟩
instance:Cl prog 32:=⟨call32⟩
instance:Cl prog 36:=⟨call36⟩
instance:Cl prog 37:=⟨call37⟩
instance:Cl prog 38:=⟨call38⟩
instance:Cl prog 39:=⟨call39⟩
instance:Cl prog 40:=⟨call40⟩
instance:Cl prog 41:=⟨call41⟩
instance:Cl prog 42:=⟨call42⟩
instance:Cl prog 44:=⟨call44⟩
instance:Cl prog 49:=⟨call49⟩
instance:Cl prog 86:=⟨call86⟩
instance:Cl prog 87:=⟨call87⟩
instance:Cl prog 88:=⟨call88⟩
instance:Cl prog 89:=⟨call89⟩
instance:Cl prog 145:=⟨call145⟩
instance:bW Tryz.f31 [Go.ResultVar.tmp 12,Go.ResultVar.tmp 13,Go.ResultVar.tmp 14]:=⟨rfl⟩
instance:bW Tryz.f39 [Go.ResultVar.cell 2 44]:=⟨rfl⟩
instance:bW Tryz.f49 [Go.ResultVar.cell 8 52]:=⟨rfl⟩
instance:bW Tryz.f89 [Go.ResultVar.tmp 4,Go.ResultVar.tmp 5]:=⟨rfl⟩
instance:bW Tryz.f145 [Go.ResultVar.cell 4 44,Go.ResultVar.tmp 5]:=⟨rfl⟩
end Go.Proofs.YtpmkboockihdbaaGreat
namespace Go.Proofs.YtpmkboockihdbaaGreat
open Go.RowKit
section
variable {P:Program} {w0:World} {W:Nat→Prop} {H:List HE}
theorem bE3{t e:TypeId}[h:aO P t (.pointer e)]:P.underlying t=some (.pointer (P.pointee t)):=by have:=h.h;rw[this,Program.pointee,this]
instance (t u e:TypeId)(x y:Operand)(p:Addr)[aO P t (.pointer e)]:MS P w0 W H (.binOp .eql t x y u) [.pointer (some p),.pointer none] (.bool false) True :=
 ⟨fun _ _ _ _ _ _ _ _ _ _ _ _ _ _ h1 h2 h3=>dS aE rfl h2 (fun a w ha hw=>by obtain⟨p,q⟩:=dH h1;simp[execOp,ha.eval p,ha.eval q,eqGuard,run_eql_pointer_nil w t _ (bE3 (t:=t) (e:=e))]) h3⟩
end
section
variable {F:Fence} {n:Nat} {P:Program} {N:Nat} {ds:List Deferred} {w0:World} {W:Nat→Prop} {σ:List (Nat×Value)} {H:List HE} {Q:Exit→Act→World→Prop}
variable {ops:Array Oper} {rest:List Oper} {d:Nat} {ty:TypeId} {pos:String} {aft:Array Edge} {gd:Option (Nat×Bool)} {v:Value}
variable {dst:Nat} {f:FuncId} {args:Array Operand} {ts:Array TypeId} {us:List Value} {S R:List HE} {Rl:Value→List HE→Prop}
end
section
variable {α:Type} {e:α→List Value} {s:Nat}
instance (priority:=90) [Inhabited α](l:List α)[h:pX e s]:aEk (aR e l) 0 s (e (l.getD 0 default)) (0<l.length):=⟨fun hi=>⟨h.h.1 _,fun j u hu=>by
 have hk:j<s:=by rw[← h.h.1 (l.getD 0 default)];exact(List.getElem?_eq_some_iff.1 hu).1
 have:=aD5 (e:=e) l 0 j hi hk;rw[Nat.zero_mul]at this;rw[this];exact hu⟩⟩
end
section
variable {P:Program} {w0:World} {W:Nat→Prop} {H:List HE}
end
section
variable {F:Fence} {n:Nat} {P:Program} {N:Nat} {ds:List Deferred} {w0:World} {W:Nat→Prop} {σ:List (Nat×Value)} {H HL:List HE} {Q:Exit→Act→World→Prop} {ops:Array Oper} {m:Nat} {rest rest':List Nat}
variable {mask:List Bool}
end
section
variable {P:Program} {w0:World} {W:Nat→Prop} {H:List HE}
instance (priority:=2500) (t u:TypeId)(x y:Operand)(k:IntKind)(a:Int):LV P w0 W H (.binOp .neq t x y u) [.int k a,.int k a] (.bool false) True:=⟨fun c=>by have:=LV.h (P:=P) (w0:=w0) (W:=W) (H:=H) (op:=.binOp .neq t x y u) (vs:=[.int k a,.int k a]) (v:=.bool (a != a)) c;rw[bne_self_eq_false]at this;exact this⟩
end
theorem yH.one{ys:List Int}{i:Nat}{a b:Int}(h:yH ys i a)(g:yH ys i b):a=b:=by rcases h with⟨rfl,h1⟩ | ⟨h1,⟨rfl,h2⟩ | ⟨rfl,h2⟩⟩<;>rcases g with⟨rfl,g1⟩ | ⟨g1,⟨rfl,g2⟩ | ⟨rfl,g2⟩⟩<;>first|rfl|contradiction
theorem pI.one{ys:List Int}{a b:Int}(h:pI ys a)(g:pI ys b):a=b:=by
 rcases h with⟨h1,h2⟩ | ⟨h1,i,hi,h2,h3,h4⟩ | ⟨h1,h2,h3⟩<;>rcases g with⟨g1,g2⟩ | ⟨g1,k,hk,g2,g3,g4⟩ | ⟨g1,g2,g3⟩
 ·rw[← h2,g2]
 ·omega
 ·omega
 ·omega
 ·have e:i=k:=by
   rcases Nat.lt_trichotomy i k with e|e|e
   ·obtain⟨z,hz⟩:=g4 i e;exact absurd hz (h3 z)
   ·exact e
   ·obtain⟨z,hz⟩:=h4 k e;exact absurd hz (g3 z)
  subst e;exact h2.one g2
 ·obtain⟨z,hz⟩:=g3 i hi;exact absurd hz (h3 z)
 ·omega
 ·obtain⟨z,hz⟩:=h3 k hk;exact absurd hz (g3 z)
 ·rw[h2,g2]
section
variable {F:Fence} {n:Nat} {P:Program} {N:Nat} {ds:List Deferred} {w0:World} {W:Nat→Prop} {σ:List (Nat×Value)} {H R S:List HE} {Q:Exit→Act→World→Prop}
variable {ops:Array Oper} {rest:List Oper} {d:Nat} {ty:TypeId} {pos:String} {aft:Array Edge} {gd:Option (Nat×Bool)} {v:Value} {us:List Value} {c:Prop}
end
attribute [local irreducible] OJ J bO Code.wpIn wpListIn Oper.wpIn bodyPost CallsIn aF
theorem aQf(x:Int):bP x*bP x=x*x:=by unfold bP;split;exact Int.neg_mul_neg x x;rfl
end Go.Proofs.YtpmkboockihdbaaGreat
namespace Go.Proofs.YtpmkboockihdbaaGreat
open Go.RowKit _root_.Go.Proofs.Tryz
instance (u:Value)(r:List Value)(q:Nat)(v:Value)[h:cZ r q v]:cZ (u::r) (1+q) v:=⟨by rw[Nat.add_comm];simpa using h.h⟩
instance (u:Value)(r:List Value)(q:Nat)(v:Value)(o:List Value)[h:jL r q v o]:jL (u::r) (1+q) v (u::o):=⟨by obtain⟨h1,h2⟩:=h.h;rw[Nat.add_comm];simp[h1];omega⟩
section
variable {P:Program} (w:World)
end
theorem bE7(t u:TypeId)(x y:Operand)(a b c d:Int)(ht:t=44):PV prog (.binOp .eql t x y u) [.agg #[.int .i64 a,.int .i64 b],.agg #[.int .i64 c,.int .i64 d]] (.bool (a==c&&b==d)) True:=⟨by
 subst ht;rintro _ ρ ⟨dst,op',ty,pos,aft,gd⟩ rfl h w;obtain⟨h1,h2⟩:=qZ h;have u2:=underlying2;have a2:=Tryz.isAgg2;have z2:=Tryz.sizeOf2;have hS:prog.underlying 44=some (.struct (prog.fieldsOf 44)):=by kernel_rfl
 have hp:prog.stoodInHeld 44=false:=by kernel_rfl
 have hm:prog.eqGuardType prog.depth 44=false:=by kernel_rfl
 simp only[execOp,h1,h2,Sem.run_bind,run_eqGuard_agg w _ _ _ _ _ _ hm,Result.andThen_ok];rw[run_eql_struct,show (10000:Nat)=9999+1 from rfl,run_equalIn_agg w 9999 44 _ _ hS hp];simp only[Program.fieldsOf,underlying44]
 go_simp
 by_cases h1:a=c<;>by_cases h2:b=d<;>simp[h1,h2]⟩
instance (priority:=60) {P:Program}{w0:World}{W:Nat→Prop}{H:List HE}(x y:Operand)(t e b q m c sz bs j r r':Nat)(a:Int)(z:Value)(k:IntKind)[hu:aO P t (.slice e)][hI:bH P e sz bs z][ha:uY a j][hm:rN j sz r][hr:nR q r r']:MS P w0 W H (.indexAddr t x y) [.slice (some ⟨b,q,none⟩) m c,.int k a] (.pointer (some ⟨b,r',none⟩)) (j<m):=by have h0:MS P w0 W H (.indexAddr t x y) [.slice (some ⟨b,q,none⟩) m c,.int k (j:Int)] (.pointer (some ⟨b,r',none⟩)) (j<m):=inferInstance;rw[ha.h];exact h0
open Go.ChangeAt Go.ChangeShapes Go.Deep Go.Joins Go.WideShapes
theorem bDg{P:Program}{f:FuncId}{args:List Value}{w:World}{v0:Value}(h:aF P f args [] w (fun v _=>v=v0)):Calls P f args.toArray w fun e w'=>e=.returned v0∧Below w.heap.size w w':=by refine h.calls.mono ?_;rintro e w' ⟨v,S',rfl,rfl,hst⟩;exact⟨rfl,hst.os,hst.tape,hst.output,hst.size,fun k hk=>hst.old k hk (by rintro⟨x,hx,_⟩;cases hx)⟩
section
variable {H:Type} {enc:TypeId×Value→H} {P:Program} {w:World} {base:Nat} {spare:Nat→Bool} {held:Bool}
theorem bE4{f:Func}{s:ChangeSpec}{apart fresh handsOn again:Bool}{W W':World}{args:Array Value}{v:Value}{ds gs:List (DataW H)}{before pa pv:List MemPlace}
  (hW:DataW.Whole enc P f.params.toList s.vars apart W args.toList ds gs before)
  (hres:∀(b:Nat) (sp:Nat→Bool) (hd:Bool),DataW.TrodAll enc P W' b sp hd f.resultTypes.toList (v.resultList f.resultTypes.size) (s.fn H (ds++gs)).results [])
  (hargs:∀sp:Nat→Bool,(∀p∈before,sp p.block=true)→DataW.TrodAll enc P W' 0 sp true f.params.toList args.toList (s.fn H (ds++gs)).args pa)
  (hvars:∀sp:Nat→Bool,(∀p∈before,sp p.block=true)→DataW.TrodVars enc P W' sp s.vars (s.fn H (ds++gs)).vars pv)
  (hps:before=pa++pv) (hb:Below W.heap.size W W')
  (hok:∀(j:Nat) (t:TypeId) (r:Value),f.resultTypes[j]? = some t→(v.resultList f.resultTypes.size)[j]? = some r→Value.okWide P W' .any 0 t r) :
  s.post enc P f apart fresh handsOn again W args v W':=by
 have hlt:∀p∈before,p.block<W.heap.size:=fun p hp=>hW.lt p hp;have hold:∀p∈before,(fun b=>decide (b<W.heap.size)) p.block=true:=fun p hp=>by simpa using hlt p hp
 refine⟨ds,gs,before,[],pa,pv,hW,hres _ _ _,hargs _ hold,hvars _ hold,World.keptBut_mono (fun p hp=>⟨hp,?_⟩) (hb.frame (·∈before)),fun _=>?_⟩
 ·rw[hps,List.mem_append]at hp;exact Or.inr hp
 ·obtain⟨_,_,_,_,_,hz,hn⟩:=hW;refine⟨hok,_,_,([]++pa)++pv,⟨[]++pa,pv,trodAll_append (hargs _ (fun _ _=>rfl)) (hres _ _ _),hvars _ (fun _ _=>rfl),rfl,?_,?_⟩,?_⟩
  ·intro b off hp;have hin:MemPlace.cell b off∈before:=by rw[hps];simpa using hp
   rw[hb.frozen (hlt _ hin)];exact hz b off hin
  ·intro ha;have:=hn ha;rw[hps]at this;simpa using this
  ·intro p hp _;rw[hps];simpa using hp
theorem bDa(hl:laidOutB P=true){W W':World}{sp':Nat→Bool}: ∀(ts:List TypeId) (vs:List Value) (ds:List (DataW H)) (ps:List MemPlace),(∀t∈ts,P.readableRec t=true∧t<P.types.size) →
  DataW.TrodAll enc P W base (fun _=>true) true ts vs ds ps→(∀p∈ps,W.sameAt W' p)→(∀p∈ps,sp' p.block=true)→DataW.TrodAll enc P W' base sp' true ts vs ds ps
 | [],[],[],ps,_,h,_,_=>h
 | t::ts,v::vs,d::ds,ps,hr,h,hs,hsp=>by
  obtain⟨p,q,h1,h2,rfl⟩:=h;have ht:=hr t aE;exact⟨p,q,Go.WideElems.Trod_stays hl ht.1 ht.2 h1 (fun x hx=>hs x (by simp[hx])) (fun x hx=>hsp x (by simp[hx])),bDa hl ts vs ds q (fun t ht=>hr t (by simp[ht])) h2 (fun x hx=>hs x (by simp[hx])) (fun x hx=>hsp x (by simp[hx])),rfl⟩
 | [],_::_,_,_,_,h,_,_=>h.elim
 | [],[],_::_,_,_,h,_,_=>h.elim
 | _::_,[],_,_,_,h,_,_=>h.elim
 | _::_,_::_,[],_,_,h,_,_=>h.elim
theorem bD9:∀(ts:List TypeId) (vs:List Value) (ds:List (DataW H)) (ps:List MemPlace),DataW.TrodAll enc P w base spare held ts vs ds ps→ds.length=ts.length
 | [],[],[],_,_=>rfl
 | t::ts,v::vs,d::ds,ps,h=>by
  obtain⟨p,q,h1,h2,rfl⟩:=h;rw[List.length_cons,List.length_cons,bD9 ts vs ds q h2]
 | [],_::_,_,_,h=>h.elim
 | [],[],_::_,_,h=>h.elim
 | _::_,[],_,_,h=>h.elim
 | _::_,_::_,[],_,h=>h.elim
theorem bDp{f:Func}{s:ChangeSpec}{W W':World}{args:Array Value}{ds gs:List (DataW H)}{before:List MemPlace}{tb:TypeId}(hl:laidOutB P=true)(hub:P.underlying tb=some .bool)
  (hW:DataW.Whole enc P f.params.toList s.vars false W args.toList ds gs before) (hvars:s.vars=[]) (hrt:f.resultTypes=#[tb])
  (hsp:∀es:List (DataW H),es.length=f.params.size→s.fn H es = { results:=[.lit (.bool true)],args:=es })
  (hread:∀t∈f.params.toList,P.readableRec t=true∧t<P.types.size) (hb:Below W.heap.size W W'):s.post enc P f false true false false W args (.bool true) W':=by
 have hW':=hW;obtain⟨p,q,hA,hV,hbe,hfz,hnd⟩:=hW;rw[hvars]at hV;obtain⟨rfl,rfl⟩:=trodVars_none hV;have hlen:=bD9 _ _ _ _ hA;have hfn:=hsp ds (by rw[hlen];simp);have hlt:∀x∈p,x.block<W.heap.size:=fun x hx=>hW'.lt x (by rw[hbe];simp[hx]);refine bE4 (pa:=p) (pv:=[]) hW' (fun _ _ _=>?_) (fun sp hs=>?_) (fun _ _=>?_) (by simpa using hbe) hb ?_
 ·rw[List.append_nil,hfn,hrt];exact trodAll_mk1 (shut_bool hub true)
 ·rw[List.append_nil,hfn];exact bDa hl _ _ _ _ hread hA (fun x hx=>hb.same (hlt x hx)) (fun x hx=>hs x (by rw[hbe];simp[hx]))
 ·rw[List.append_nil,hfn,hvars];rfl
 ·exact ok_one hrt rfl (okWide_bool_mk hub true)
theorem aQ9{k:IntKind}{n:Int}(h:(Lit.int k n).wf=true):aP k n:=by cases k<;>simp[Lit.wf,IntKind.min,IntKind.max,IntKind.signed,IntKind.bits]at h<;>simp only[aP]<;>omega
theorem aPy{r:Reach}{b0:Nat}{t:TypeId}{k:IntKind}{v:Value}{d:DataW H}{ps:List MemPlace}(ht:P.underlying t=some (.int k))(hval:Value.okWide P w r b0 t v)(hd:DataW.Trod enc P w base spare held t v d ps):∃n,v=.int k n∧aP k n:=by obtain⟨n,h1,-,-,h4⟩:=open_int ht hval hd;exact⟨n,h1,aQ9 h4⟩
theorem bDo{r:Reach}{b0:Nat}{t e:TypeId}{k:IntKind}{v:Value}{d:DataW H}{ps:List MemPlace}(ht:P.underlying t=some (.slice e))(he:P.underlying e=some (.int k))(hC:P.cellsOf e=1)(hv:Value.okWide P w r b0 t v)(h:DataW.Trod enc P w 0 (fun _=>true) true t v d ps):
  ∃(A:Option Addr) (c:Nat) (xs:List Int),v=.slice A xs.length c∧bF w (aV []) A xs.length c 1 (aC k xs)∧∀x∈xs,aP k x:=by
 obtain⟨a0,len,cap,rfl⟩:=okWide_slice ht hv;obtain⟨fuel,hf⟩:=h;have hf':DataW.trod enc P w 0 (fun _=>true) true fuel t [.slice a0 len cap]=some (d,ps):=by simpa [Value.cells] using hf
 rcases open_ints ht he hC hf' with⟨hcs,-⟩ | ⟨a,len',cap',zs,hcs,-,hl,hm,hmm,-,hcell,hwf⟩
 ·simp at hcs;obtain⟨rfl,rfl,rfl⟩:=hcs;exact⟨none,0,[],rfl,⟨Ro.nil _ _ _⟩,aE⟩
 ·simp at hcs hmm;obtain⟨rfl,rfl,rfl⟩:=hcs;have hlen:(zs.take len).length=len:=by rw[List.length_take];omega
  refine⟨some a,cap,zs.take len,by rw[hlen],⟨some a,cap,rfl,oo,hm,aE,fun hpos=>?_⟩,fun x hx=>aQ9 (hwf x (List.mem_of_mem_take hx))⟩;rw[hlen]at hpos;have hc0:=hcell 0 oo;obtain⟨b,off,spot⟩:=a;have hspot:spot=none:=by simpa [Addr.add] using World.cell?_spot hc0
  subst hspot;have hblt:b<w.heap.size:=by
   rcases Nat.lt_or_ge b w.heap.size with hlt|hge
   ·exact hlt
   ·rw[pJ]at hc0;simp[World.cell?,Array.getElem?_eq_none hge]at hc0
  refine⟨b,off,rfl,hblt,(by rintro⟨x,hx,_⟩;cases hx),fun j u hu=>?_⟩;have hj:j<len:=by have:=(List.getElem?_eq_some_iff.1 hu).1;simpa [hlen] using this
  have:=hcell j oo;rw[pJ]at this;rw[this];simp only[aC,List.getElem?_map,List.getElem?_take,if_pos hj]at hu;rw[List.getElem?_eq_getElem oo]at hu;simp at hu;rw[← hu,List.getD_eq_getElem?_getD,List.getElem?_eq_getElem oo];rfl
end
theorem bDt:laidOutB prog=true:=by kernel_rfl
section
variable {H:Type} {enc:TypeId×Value→H} {P:Program} {w:World} {base:Nat} {spare:Nat→Bool} {held:Bool}
theorem bEb{t0 t1 t2 t3 t4 t5 t6:TypeId}{args:Array Value}{ds:List (DataW H)}{ps:List MemPlace}(h:DataW.TrodAll enc P w base spare held [t0,t1,t2,t3,t4,t5,t6] args.toList ds ps):
  ∃v0 v1 v2 v3 v4 v5 v6 d0 d1 d2 d3 d4 d5 d6 p0 p1 p2 p3 p4 p5 p6,args=#[v0,v1,v2,v3,v4,v5,v6]∧ds=[d0,d1,d2,d3,d4,d5,d6]∧ps=p0++p1++p2++p3++p4++p5++p6∧DataW.Trod enc P w base spare held t0 v0 d0 p0∧DataW.Trod enc P w base spare held t1 v1 d1 p1∧DataW.Trod enc P w base spare held t2 v2 d2 p2∧DataW.Trod enc P w base spare held t3 v3 d3 p3∧DataW.Trod enc P w base spare held t4 v4 d4 p4∧DataW.Trod enc P w base spare held t5 v5 d5 p5∧DataW.Trod enc P w base spare held t6 v6 d6 p6:=by
 obtain⟨v0,vs0,d0,ds0,p0,q0,hargs,rfl,rfl,k0,h0⟩:=trodAll_cons h;obtain⟨v1,vs1,d1,ds1,p1,q1,rfl,rfl,rfl,k1,h1⟩:=trodAll_cons h0;obtain⟨v2,vs2,d2,ds2,p2,q2,rfl,rfl,rfl,k2,h2⟩:=trodAll_cons h1;obtain⟨v3,vs3,d3,ds3,p3,q3,rfl,rfl,rfl,k3,h3⟩:=trodAll_cons h2;obtain⟨v4,vs4,d4,ds4,p4,q4,rfl,rfl,rfl,k4,h4⟩:=trodAll_cons h3;obtain⟨v5,vs5,d5,ds5,p5,q5,rfl,rfl,rfl,k5,h5⟩:=trodAll_cons h4;obtain⟨v6,vs6,d6,ds6,p6,q6,rfl,rfl,rfl,k6,h6⟩:=trodAll_cons h5;obtain⟨rfl,rfl,rfl⟩:=trodAll_nil h6;exact⟨v0,v1,v2,v3,v4,v5,v6,d0,d1,d2,d3,d4,d5,d6,p0,p1,p2,p3,p4,p5,p6,by cases args;simp_all,rfl,aE,k0,k1,k2,k3,k4,k5,k6⟩
theorem uW.app:∀{ks ls:List IntKind} {cs ds:List Value},uW ks cs→uW ls ds→uW (ks++ls) (cs++ds)
 | [],_,_,_,h,g=>by rw[show _=[]from h];simpa using g
 | k::ks,_,_,_,⟨n,r,e,hn,h⟩,g=>⟨n,r++_,by rw[e];rfl,hn,h.app g⟩
structure aA6(P:Program)(t:TypeId)(ks:List IntKind):Prop where
 len:P.cellsOf t=ks.length
 h:∀{H:Type} {enc:TypeId×Value→H} {w:World} {base:Nat} {spare:Nat→Bool} {held:Bool} {fuel:Nat} {cs:List Value} {x:DataW H×List MemPlace},DataW.trod enc P w base spare held fuel t cs=some x→uW ks cs
theorem aFx{t:TypeId}{k:IntKind}(ht:P.underlying t=some (.int k))(hc:P.cellsOf t=1):aA6 P t [k]:=⟨hc,fun h=>by obtain⟨n,rfl,-,hwf⟩:=DataW.trod_int ht h;exact⟨n,[],rfl,aQ9 hwf,rfl⟩⟩
def aPv(P:Program):List Field→Nat→List (List IntKind)→Prop
 | [],_,kss=>kss=[]
 | f::fs,off,kss=>∃ks r,kss=ks::r∧f.offset=off∧aA6 P f.type ks∧aPv P fs (off+ks.length) r
theorem bBb{cs:List Value}: ∀(fs:List Field) (off:Nat) (kss:List (List IntKind)),aPv P fs off kss→off+kss.flatten.length≤cs.length →
  (∀f∈fs,∃(n:Nat) (x:DataW H×List MemPlace),DataW.trod enc P w base spare held n f.type ((cs.drop f.offset).take (P.cellsOf f.type))=some x)→uW kss.flatten ((cs.drop off).take kss.flatten.length)
 | [],off,kss,h,_,_=>by rw[show kss=[]from h];simp[uW]
 | f::fs,off,_,⟨ks,r,rfl,ho,hk,hr⟩,hl,hf=>by
  obtain⟨n,x,hx⟩:=hf f (List.mem_cons_self ..);have h1:=hk.h hx;rw[ho,hk.len]at h1;rw[List.flatten_cons,List.length_append]at hl ⊢;have h2:=bBb fs (off+ks.length) r hr oo (fun g hg=>hf g (List.mem_cons_of_mem _ hg));have e:(cs.drop off).take (ks.length+r.flatten.length)=(cs.drop off).take ks.length++(cs.drop (off+ks.length)).take r.flatten.length:=by rw[List.take_add,List.drop_drop]
  rw[e];exact h1.app h2
theorem aEu{t:TypeId}{fs:Array Field}(kss:List (List IntKind))(ht:P.underlying t=some (.struct fs))(hf:aPv P fs.toList 0 kss)(hc:P.cellsOf t=kss.flatten.length):aA6 P t kss.flatten:=⟨hc,fun {H enc w base spare held fuel cs x} h=>by
 obtain⟨xs,n,-,-,hl,hxl,hat⟩:=DataW.trod_struct ht h;have:=bBb (enc:=enc) (w:=w) (base:=base) (spare:=spare) (held:=held) (cs:=cs) fs.toList 0 kss hf oo (fun f hf=>by
  obtain⟨i,hi,rfl⟩:=List.getElem_of_mem hf;have hi':i<fs.size:=by simpa using hi
  have h1:=hat i fs[i] (Array.getElem?_eq_getElem hi');rw[List.getElem?_eq_getElem (by omega:i<xs.length)]at h1;exact⟨n,_,by simpa using h1⟩)
 rw[List.drop_zero,List.take_of_length_le oo]at this;exact this⟩
theorem bC5{r:Reach}{b0:Nat}{t:TypeId}{fs:Array Field}{ks:List IntKind}{v:Value}{d:DataW H}{ps:List MemPlace}(ht:P.underlying t=some (.struct fs))(hk:aA6 P t ks)(hv:Value.okWide P w r b0 t v)(h:DataW.Trod enc P w base spare held t v d ps):
  ∃cs:List Value,v=.agg cs.toArray∧uW ks cs:=by
 obtain⟨cs,rfl,hsz⟩:=okWide_struct ht hv;obtain⟨fuel,hf⟩:=h;exact⟨cs.toList,aE,hk.h hf⟩
theorem bDu{α:Type}{Q:Nat→α→Prop}{n:Nat}(h:∀i,i<n→∃f,Q i f):∃l:List α,l.length=n∧∀i f,l[i]? = some f→Q i f:=by
 induction n with
 | zero=>exact⟨[],rfl,aE⟩
 | succ n ih =>
  obtain⟨l,hl,hp⟩:=ih (fun i hi=>h i oo);obtain⟨f,hf⟩:=h n oo;refine⟨l++[f],by simp[hl],fun i g hg=>?_⟩;by_cases hi:i<l.length
  ·rw[List.getElem?_append_left hi]at hg;exact hp i g hg
  ·have hb:i<(l++[f]).length:=(List.getElem?_eq_some_iff.1 hg).1;have:i=l.length:=by simp at hb;omega
   subst this;simp at hg;subst hg;rw[hl];exact hf
theorem bDq{α:Type}[Inhabited α]{en:α→List Value}{s:Nat}[hR:pX en s]{ok:α→Prop}{r:Reach}{b0:Nat}{t e:TypeId}{ks:List IntKind}{v:Value}{d:DataW H}{ps:List MemPlace}(ht:P.underlying t=some (.slice e))(hk:aA6 P e ks)(hs:ks.length=s)
  (hun:∀cs,uW ks cs→∃a,ok a∧en a=cs) (hv:Value.okWide P w r b0 t v) (h:DataW.Trod enc P w 0 (fun _=>true) true t v d ps) :
  ∃(A:Option Addr) (c:Nat) (l:List α),v=.slice A l.length c∧bF w (aV []) A l.length c s (aR en l)∧∀x∈l,ok x:=by
 obtain⟨a0,len,cap,rfl⟩:=okWide_slice ht hv;obtain⟨fuel,hf⟩:=h;have hf':DataW.trod enc P w 0 (fun _=>true) true fuel t [.slice a0 len cap]=some (d,ps):=by simpa [Value.cells] using hf
 rcases open_slice ht hf' with⟨hcs,-⟩ | ⟨a,len',cap',m,n,D,Pl,hcs,hb,hl,hm,hmm,hx,hi⟩
 ·simp at hcs;obtain⟨rfl,rfl,rfl⟩:=hcs;exact⟨none,0,[],rfl,⟨Ro.nil _ _ _⟩,aE⟩
 ·simp at hcs hmm;obtain⟨rfl,rfl,rfl⟩:=hcs;subst hmm;have hel:∀i,i<len→∃f:α,ok f∧∀k u,(en f)[k]? = some u→w.cell? (a.add (i*s+k))=some u:=by
   intro i hil;obtain⟨cs',hc,ht'⟩:=hi i oo;obtain⟨f,hok,he⟩:=hun cs' (hk.h ht');obtain⟨-,hcl,hat⟩:=World.cells?_some hc;rw[hk.len,hs]at hcl hat
   refine⟨f,hok,fun k u hu=>?_⟩;have hks:k<s:=by rw[← hR.h.1 f];exact(List.getElem?_eq_some_iff.1 hu).1
   rw[← Go.Deep.add_add,hat k hks,← he];exact hu
  obtain⟨l,rfl,hp⟩:=bDu hel;refine⟨some a,_,l,rfl,⟨some a,_,rfl,hl,hm,lF l,fun hn=>?_⟩,fun f hf=>?_⟩
  ·obtain⟨f0,hf0⟩:∃f,l[0]? = some f:=⟨l[0],List.getElem?_eq_getElem hn⟩;obtain⟨u0,hu0⟩:∃u,(en f0)[0]? = some u:=⟨(en f0)[0]'(by rw[hR.h.1];exact hR.h.2),List.getElem?_eq_getElem _⟩;have hc0:=(hp 0 f0 hf0).2 0 _ hu0;obtain⟨b,off,spot⟩:=a;have hspot:spot=none:=by simpa [Addr.add] using World.cell?_spot hc0
   subst hspot;have hblt:b<w.heap.size:=by
    rcases Nat.lt_or_ge b w.heap.size with hlt|hge
    ·exact hlt
    ·rw[pJ]at hc0;simp[World.cell?,Array.getElem?_eq_none hge]at hc0
   refine⟨b,off,rfl,hblt,(by rintro⟨x,hx,_⟩;cases hx),fun j u hu=>?_⟩;have hjl:j<l.length*s:=by rw[← lF (e:=en) l];exact(List.getElem?_eq_some_iff.1 hu).1
   have hpos:=hR.h.2;have hi2:j/s<l.length:=Nat.div_lt_of_lt_mul (by rw[Nat.mul_comm];exact hjl);have hj:j/s*s+j%s=j:=by rw[Nat.mul_comm];exact Nat.div_add_mod j s
   have h1:=aD5 (e:=en) l (j/s) (j%s) hi2 (Nat.mod_lt _ hpos);rw[hj,hu]at h1;have hge:l[j/s]? = some (l.getD (j/s) default):=by rw[List.getD_eq_getElem?_getD,List.getElem?_eq_getElem hi2];rfl
   have:=(hp _ _ hge).2 _ u h1.symm;rw[hj,pJ]at this;exact this
  ·obtain⟨i,hi',rfl⟩:=List.getElem_of_mem hf;exact(hp i _ (List.getElem?_eq_getElem hi')).1
end
theorem aA8:aA6 prog 2 [.i64]:=aFx underlying2 (by kernel_rfl)
theorem aDj:aA6 prog 3 [.i64]:=aFx underlying3 (by kernel_rfl)
theorem bDn:aA6 prog 32 [.u16]:=aFx underlying32 (by kernel_rfl)
theorem aW2:aA6 prog 46 [.u32]:=aFx underlying46 (by kernel_rfl)
theorem aPw:aA6 prog 21 [.i32]:=aFx underlying21 (by kernel_rfl)
theorem bDm:aA6 prog 44 [.i64,.i64]:=aEu [[.i64],[.i64]] underlying44 ⟨_,_,rfl,rfl,aA8,_,_,rfl,rfl,aA8,rfl⟩ (by kernel_rfl)
theorem bDl:aA6 prog 48 [.u32,.i64,.i64,.i64]:=aEu [[.u32],[.i64],[.i64],[.i64]] underlying48 ⟨_,_,rfl,rfl,aW2,_,_,rfl,rfl,aA8,_,_,rfl,rfl,aDj,_,_,rfl,rfl,aA8,rfl⟩ (by kernel_rfl)
theorem bDi:aA6 prog 67 [.i64,.u16,.u32,.i32,.i32,.i32]:=aEu [[.i64],[.u16],[.u32],[.i32],[.i32],[.i32]] underlying67 ⟨_,_,rfl,rfl,aDj,_,_,rfl,rfl,bDn,_,_,rfl,rfl,aW2,_,_,rfl,rfl,aPw,_,_,rfl,rfl,aPw,_,_,rfl,rfl,aPw,rfl⟩ (by kernel_rfl)
theorem bEd:∀cs,uW [.i64,.u16,.u32,.i32,.i32,.i32] cs→∃a:jH,a.ok∧dR a=cs:=by rintro _ ⟨x0,_,rfl,h0,x1,_,rfl,h1,x2,_,rfl,h2,x3,_,rfl,h3,x4,_,rfl,h4,x5,_,rfl,h5,rfl⟩;exact⟨⟨x0,x1,x2,x3,x4,x5⟩,⟨h0,h1,h2,h3,h4,h5⟩,rfl⟩
end Go.Proofs.YtpmkboockihdbaaGreat
namespace Go.Proofs.YtpmkboockihdbaaGreat
open Go.RowKit _root_.Go.Proofs.Tryz
attribute [local irreducible] OJ J bO Code.wpIn wpListIn Oper.wpIn bodyPost CallsIn aF
instance light_cv(A:Option Addr)(n c:Nat)(B:Option Addr)(m d:Nat):CV prog 29 [.slice A n c,.slice B m d] (.int .i64 (if 1500<n∨60<m then 1 else 0)) True:=⟨fun _ w=>by
 refine aJ func29 rfl ntmps29 rfl ⟨aE,.nil⟩ (fun _=>?_);simp only[aG];by_cases h:1500<n∨60<m
 ·rw[if_pos h];refine aB;all_goals first
   | (exfalso;omega)
   | exact aK rfl rfl (.nil _) ⟨rfl,rfl⟩
 ·rw[if_neg h];refine aB;all_goals first
   | (exfalso;omega)
   | exact aK rfl rfl (.nil _) ⟨rfl,rfl⟩⟩
end Go.Proofs.YtpmkboockihdbaaGreat
namespace Go.Proofs.YtpmkboockihdbaaGreat
open Go.RowKit _root_.Go.Proofs.Tryz
theorem aD.push9{H S R:List HE}(x:HE)(h:aD H S R):aD (x::H) S (x::R):=by
 induction h with
 | nil H=>exact .nil _
 | cons hh _ ih=>exact .cons (.there x hh) ih
theorem aD.whole1:∀T:List HE,aD T T []
 | []=>.nil _
 | x::T=>.cons (.here _ _) (aD.whole1 T)
theorem aS.app(T:List HE){H:List HE}{x:HE}{R:List HE}(h:aS H x R):aS (T++H) x (T++R):=by
 induction T with
 | nil=>exact h
 | cons y T ih=>exact .there y ih
theorem aA.keeps(T:List HE){S H:List HE}(h:aA S H):aA (T++S) (T++H):=by
 induction T with
 | nil=>exact h
 | cons y T ih=>exact .cons (.here y _) ih
instance (priority:=5) (T H R:List HE)(x:HE)[h:aAh H x R]:aAh (T++H) x (T++R):=⟨h.h.app T⟩
instance (priority:=6) (T:List HE):aC9 T T:=⟨aA.refl T⟩
instance (priority:=4) (T H:List HE):aC9 T (T++H):=⟨by have:=(aA.nil H).keeps T;rwa [List.append_nil]at this⟩
instance (priority:=3) (y:HE)(T H:List HE)[h:aC9 T H]:aC9 T (y::H):=⟨h.h.skip y⟩
instance (priority:=6) (T:List HE):vC T T []:=⟨aD.whole1 T⟩
instance (priority:=4) (y:HE)(T H R:List HE)[h:vC H T R]:vC (y::H) T (y::R):=⟨h.h.push9 y⟩
structure eE where
 dx:Int
 dy:Int
 sure:Int
 known:Bool
 loss:Int
 fixes:Int
 since:Int
@[reducible] def aHc(L:eE)(c:jH):eE:=⟨c.a,c.b,c.c,true,L.loss,L.fixes+1,0⟩
@[reducible] def aDe(L:eE):eE:=⟨L.dx,L.dy,L.sure+L.loss,L.known,L.loss,L.fixes,L.since+1⟩
def eW(s t:aL)(x:jH):Bool:=decide (x.kind=1∧s.modes.length<t.modes.length)
def eH(L:eE)(m:Bool)(out:List jH):eE :=
 if out.length=2 then aHc (if m then aDe L else L) (out.getD 1 default)else if m then aDe L else L
structure aE0(L:eE)(s:aL)(k:Nat):Prop where
 loss:0≤L.loss∧L.loss≤65536
 sure:0≤L.sure∧L.sure≤1073741824+65536*(k:Int)
 dx : -1073741824≤L.dx∧L.dx≤1073741824
 dy : -1073741824≤L.dy∧L.dy≤1073741824
 fixes:0≤L.fixes∧L.fixes≤k
 since:0≤L.since∧L.since≤k
 know:L.known=decide (0<L.fixes)
 no:L.known=false→L.dx=0∧L.dy=0
 far:L.known=true→(-137438953472≤s.x∧s.x≤137438953472)∧(-137438953472≤s.y∧s.y≤137438953472)
theorem bE8(g:bE):0≤aE8 g:=by unfold aE8;dsimp only;split<;>omega
theorem aXn{s:aL}{c:jH}(h:rU s=some c):qS c.c∧0≤c.c:=by
 unfold rU at h;dsimp only at h;split at h
 ·rename_i hc;injection h with h;subst h;exact⟨hc.2.2.2.2.2.2,bE8 _⟩
 ·cases h
theorem aU1{a b:Int}(ha : -68719476736≤a∧a≤68719476736)(hb : -2147483648≤b∧b≤2147483647):gK a b=a+b:=by
 have e:IntKind.i64.wrap (a+b)=a+b:=by rw[IntKind.wrap_i64];omega
 unfold gK gL;rw[e];split
 ·rename_i h;rw[Bool.and_eq_true,beq_iff_eq,bne_iff_ne,decide_eq_decide,ne_eq,decide_eq_decide]at h;omega
 ·rfl
theorem bD8{W H:Nat}{f:List Int}{s:aL}(hxy:s.mode≠4→lP s.x s.y=true){x:jH}(hx:x.ok):
  (-2147483648≤(jW W H f s x).1.x-s.x∧(jW W H f s x).1.x-s.x≤2147483648)∧(-2147483648≤(jW W H f s x).1.y-s.y∧(jW W H f s x).1.y-s.y≤2147483648)∧(s.mode=4→(jW W H f s x).1.x=s.x∧(jW W H f s x).1.y=s.y):=by
 obtain⟨-,-,-,xa,xb,-⟩:=hx;have hxa : -2147483648≤x.a∧x.a≤2147483647:=xa;have hxb : -2147483648≤x.b∧x.b≤2147483647:=xb;have key:∀t:aL,((t.x=s.x∧t.y=s.y)∨(s.mode≠4∧t.x=gK s.x x.a∧t.y=gK s.y x.b))→(-2147483648≤t.x-s.x∧t.x-s.x≤2147483648)∧(-2147483648≤t.y-s.y∧t.y-s.y≤2147483648)∧(s.mode=4→t.x=s.x∧t.y=s.y):=by
  rintro t (⟨e1,e2⟩ | ⟨e0,e1,e2⟩)
  ·exact⟨oo,oo,fun _=>⟨e1,e2⟩⟩
  ·have hw:=of_decide_eq_true (hxy e0);refine⟨?_,?_,fun h=>absurd h e0⟩
   ·rw[e1,aU1 oo oo];omega
   ·rw[e2,aU1 oo oo];omega
 unfold jW;split
 ·exact key _ (.inl ⟨rfl,rfl⟩)
 ·rename_i hm;dsimp only;generalize s.ln.take x.kind x.seq x.time x.a=t;split
  ·obtain⟨-,-,-,g4,g5⟩:=aG0 (W:=W) (H:=H) (f:=f) { s with ln:=t.1 } t.2.2.1;obtain⟨⟨-,-,-,q4,q5⟩,-⟩:=aOf { (lH W H f { s with ln:=t.1 } t.2.2.1).1 with time:=x.time } (lH W H f { s with ln:=t.1 } t.2.2.1).2 true;exact key _ (.inl ⟨q4.trans g4,q5.trans g5⟩)
  split
  ·exact key _ (.inl ⟨rfl,rfl⟩)
  ·split
   ·obtain⟨⟨-,-,-,q4,q5⟩,-⟩:=aOf { (kU { s with ln:=t.1 } x.a x.b).1 with time:=x.time } (kU { s with ln:=t.1 } x.a x.b).2 (decide (x.kind=5∨x.kind=4));have hm:(kU { s with ln:=t.1 } x.a x.b).1.x=gK s.x x.a∧(kU { s with ln:=t.1 } x.a x.b).1.y=gK s.y x.b:=by
     unfold kU;dsimp only;repeat' split
     all_goals exact⟨rfl,rfl⟩
    exact key _ (.inr ⟨oa,q4.trans hm.1,q5.trans hm.2⟩)
   split
   ·obtain⟨⟨-,-,-,q4,q5⟩,-⟩:=aOf { s with ln:=t.1,time:=x.time } { lT with start:=decide (x.a=1),stop:=decide (x.a=0) } (decide (x.kind=5∨x.kind=4));exact key _ (.inl ⟨q4,q5⟩)
   ·obtain⟨⟨-,-,-,q4,q5⟩,-⟩:=aOf { s with ln:=t.1,time:=x.time } lT (decide (x.kind=5∨x.kind=4));exact key _ (.inl ⟨q4,q5⟩)
theorem aM4{W H:Nat}{f:List Int}{L:eE}{s:aL}{k:Nat}(h:aE0 L s k)(hN:cX s k)(hw:s.mode≠4→lP s.x s.y=true){x:jH}(hx:x.ok):
  aE0 (eH L (eW s (jW W H f s x).1 x) (jW W H f s x).2) (jW W H f s x).1 (k+1):=by
 obtain⟨d1,d2,d3⟩:=bD8 (W:=W) (H:=H) (f:=f) hw hx;obtain⟨-,ht⟩:=bBs (W:=W) (H:=H) (f:=f) s x;have hw2:=bBq (W:=W) (H:=H) (f:=f) hw hN.mode x;generalize jW W H f s x=r at *;obtain⟨t,out⟩:=r;dsimp only at *;obtain⟨h1,h2,h3,h4,h5,h6,h7,h8,h9⟩:=h;obtain⟨dx,dy,sure,known,loss,fixes,since⟩:=L;dsimp only at *;have hfar:known=true→(-137438953472≤t.x∧t.x≤137438953472)∧(-137438953472≤t.y∧t.y≤137438953472):=by
  intro hk;by_cases hm:s.mode=4
  ·obtain⟨e1,e2⟩:=d3 hm;rw[e1,e2];exact h9 hk
  ·have:=of_decide_eq_true (hw hm);omega
 have key:∀m:Bool,aE0 (if m then aDe ⟨dx,dy,sure,known,loss,fixes,since⟩else ⟨dx,dy,sure,known,loss,fixes,since⟩) t (k+1):=by
  intro m;cases m
  ·exact⟨h1,by push_cast;exact⟨h2.1,by have:=h2.2;omega⟩,h3,h4,by push_cast;omega,by push_cast;omega,h7,h8,hfar⟩
  ·exact⟨h1,by push_cast;exact⟨by have:=h2.1;have:=h1.1;show 0≤sure+loss;omega,by have:=h2.2;have:=h1.2;show sure+loss≤_;omega⟩,h3,h4,by push_cast;exact⟨h5.1,by show fixes≤_;omega⟩,by push_cast;exact⟨by show 0≤since+1;omega,by show since+1≤_;omega⟩,h7,h8,hfar⟩
 generalize eW s t x=m at *;have key:=key m;unfold eH;rcases ht with rfl|rfl | ⟨c,rfl,hm2,-,hc⟩
 ·exact key
 ·exact key
 ·obtain⟨-,-,-,fa,fb⟩:=bD5 hc;obtain⟨fc,hc0⟩:=aXn hc;have hwt:=of_decide_eq_true (hw2 (by rw[hm2];decide));have k5:=key.fixes;unfold qS at fa fb fc;show aE0 (aHc (if m then aDe ⟨dx,dy,sure,known,loss,fixes,since⟩else ⟨dx,dy,sure,known,loss,fixes,since⟩) c) t (k+1);refine⟨key.loss,?_,?_,?_,?_,?_,?_,?_,?_⟩
  ·show 0≤c.c∧c.c≤_;push_cast;omega
  ·show _≤c.a∧c.a≤_;omega
  ·show _≤c.b∧c.b≤_;omega
  ·cases m
   ·show 0≤fixes+1∧fixes+1≤((k+1:Nat):Int);omega
   ·show 0≤fixes+1∧fixes+1≤((k+1:Nat):Int);omega
  ·show (0:Int)≤0∧(0:Int)≤((k+1:Nat):Int);omega
  ·have:0<(if m then aDe ⟨dx,dy,sure,known,loss,fixes,since⟩else ⟨dx,dy,sure,known,loss,fixes,since⟩:eE).fixes+1:=by
    cases m
    ·show 0<fixes+1;omega
    ·show 0<fixes+1;omega
   exact(decide_eq_true this).symm
  ·intro e;exact absurd e (by show ¬(true=false);decide)
  ·intro _;omega
attribute [local irreducible] OJ J bO Code.wpIn wpListIn Oper.wpIn bodyPost CallsIn aF
instance (priority:=2000) hypotW_cv(x y:Int):CV prog 89 [.int .i64 x,.int .i64 y] (.tuple #[.int .u64 (qF (x*x+y*y) 64),.bool true]) ((-2199023255552≤x∧x≤2199023255552)∧(-2199023255552≤y∧y≤2199023255552)):=⟨fun hc w=>by
 have h1:=fU 2199023255552 2199023255552 (a:=x) (b:=x) oo oo;have h2:=fU 2199023255552 2199023255552 (a:=y) (b:=y) oo oo
 have h3 : 0 ≤ x * x := by rw [← aQf]; have : 0 ≤ bP x := by (unfold bP; split <;> omega)
                           exact Int.mul_nonneg this this
 have h4 : 0 ≤ y * y := by rw [← aQf]; have : 0 ≤ bP y := by (unfold bP; split <;> omega)
                           exact Int.mul_nonneg this this
 have h5:=aNw (x*x+y*y) 64;refine aJ func89 rfl ntmps89 rfl ⟨aE,.nil⟩ (fun n=>?_);simp only[aG];refine aB;refine bI;exact⟨rfl,rfl⟩⟩
@[reducible] def bX(g:Nat)(L:eE):List Value:=[.pointer (some ⟨g,0,none⟩),.int .i64 L.dx,.int .i64 L.dy,.int .i64 L.sure,.bool L.known,.int .i64 L.loss,.int .i64 L.fixes,.int .i64 L.since]
theorem bDx(b g:Nat)(L:eE)(w:World)(hown:aZ [.blk b 113 (bX g L)] w):
  aF prog 37 [.pointer (some ⟨b,0,none⟩)] [.blk b 113 (bX g L)] w (fun v S'=>v=.tuple #[.int .i64 L.sure,.bool L.known]∧S'=[.blk b 113 (bX g L)]):=by
 refine aJ func37 rfl ntmps37 rfl hown (fun _=>?_);simp only[aG];refine aB;all_goals exact cM rfl rfl rfl aA.au ⟨rfl,rfl⟩
theorem aQ0(b g:Nat)(L:eE)(w:World)(hown:aZ [.blk b 113 (bX g L)] w):
  aF prog 38 [.pointer (some ⟨b,0,none⟩)] [.blk b 113 (bX g L)] w (fun v S'=>v=.tuple #[.int .i64 L.fixes,.int .i64 L.since]∧S'=[.blk b 113 (bX g L)]):=by
 refine aJ func38 rfl ntmps38 rfl hown (fun _=>?_);simp only[aG];refine aB;all_goals exact cM rfl rfl rfl aA.au ⟨rfl,rfl⟩
theorem aIs(b g:Nat)(L:eE)(s:aL)(a:bR)(w:World)(hown:aZ [.blk b 113 (bX g L),.blk g 173 (aI s a)] w)(hL:jS s)(hx:aP .i64 (s.x+L.dx))(hy:aP .i64 (s.y+L.dy)):
  aF prog 39 [.pointer (some ⟨b,0,none⟩)] [.blk b 113 (bX g L),.blk g 173 (aI s a)] w (fun v S'=>v=.agg #[.int .i64 (s.x+L.dx),.int .i64 (s.y+L.dy)]∧S'=[.blk b 113 (bX g L),.blk g 173 (aI s a)]):=by
 refine aJ func39 rfl ntmps39 rfl hown (fun _=>?_);simp only[aG];refine aB;refine lf rfl rfl rfl (S:=[.blk g 173 (aI s a)]) (fun w hw ho=>aV7 g s a w ho hL) ?_;rintro v S' ⟨rfl,rfl⟩;refine aB;refine fL [.blk b 113 (bX g L)] (0::1::2::3::4::5::6::7::8::9::10::11::12::13::14::15::16::17::[]) aA.au ?_;intro _;refine cF;all_goals
  refine eD (S':=[.blk b 113 (bX g L),.blk g 173 (aI s a)]) aA.au ?_;refine cY;exact⟨rfl,rfl⟩
theorem aQ1(b g:Nat)(L:eE)(s:aL)(a:bR)(w:World)(hown:aZ [.blk b 113 (bX g L),.blk g 173 (aI s a)] w)(hL:jS s)(hi:bF w (aV [.blk b 113 (bX g L),.blk g 173 (aI s a)]) a.Ai s.ins.length a.ci 9 (aR lK s.ins))(hm:bF w (aV [.blk b 113 (bX g L),.blk g 173 (aI s a)]) a.Am s.modes.length a.cm 1 (aC .i64 s.modes))(hb:s.ins.length≤100000000∧s.modes.length≤100000000):
  aF prog 87 [.pointer (some ⟨b,0,none⟩)] [.blk b 113 (bX g L),.blk g 173 (aI s a)] w (fun v S'=>∃A2 c2,v=.slice A2 s.modes.length c2∧S'=[.blk b 113 (bX g L),.blk g 173 (aI s a)]):=by
 refine aJ func87 rfl ntmps87 rfl hown (fun _=>?_);simp only[aG];refine aB;refine lf rfl rfl rfl (S:=[.blk g 173 (aI s a)]) (fun w hw ho=>aV6 g s a w ho hL ⟨hi.h.go hw aD.au⟩ ⟨hm.h.go hw aD.au⟩ hb) ?_;rintro v S' ⟨A1,c1,A2,c2,rfl,rfl⟩;refine aB;exact aK (S':=[.blk b 113 (bX g L),.blk g 173 (aI s a)]) rfl rfl aA.au ⟨A2,c2,rfl,rfl⟩
theorem bDe(x y:Int)(c:jH)(hx:rC x)(hy:rC y)(ha:qS c.a)(hb:qS c.b)(w:World)(hk:c.kind=6):
  aF prog 145 [.agg #[.int .i64 x,.int .i64 y],.agg (dR c).toArray] [] w (fun v S'=>v=.tuple #[.agg #[.int .i64 (x+c.a),.int .i64 (y+c.b)],.bool true]∧S'=[]):=by
 have iK:∀w0 W H t u a b,MS prog w0 W H (.binOp .neq t a b u) [.int .i64 c.kind,.int .i64 6] (.bool false) True:=fun _ _ _ _ _ _ _=>bM inferInstance trivial (congrArg Value.bool (by simp[hk]));unfold rC at hx hy;unfold qS at ha hb;refine aJ func145 rfl ntmps145 rfl ⟨aE,.nil⟩ (fun n=>?_);simp only[aG];refine aB;all_goals first
  | (exfalso;omega)
  | (refine bI;exact⟨rfl,rfl⟩)
theorem bDf(x y:Int)(c:jH)(w:World)(hk:c.kind=7):
  aF prog 145 [.agg #[.int .i64 x,.int .i64 y],.agg (dR c).toArray] [] w (fun v S'=>v=.tuple #[.agg #[.int .i64 x,.int .i64 y],.bool false]∧S'=[]):=by
 have iK:∀w0 W H t u a b,MS prog w0 W H (.binOp .neq t a b u) [.int .i64 c.kind,.int .i64 6] (.bool true) True:=fun _ _ _ _ _ _ _=>bM inferInstance trivial (congrArg Value.bool (by simp[hk]));refine aJ func145 rfl ntmps145 rfl ⟨aE,.nil⟩ (fun n=>?_);simp only[aG];refine aB;all_goals first
  | (exfalso;omega)
  | (refine bI;exact⟨rfl,rfl⟩)
theorem bD7(b g:Nat)(L:eE)(s:aL)(a:bR)(c:jH)(w:World)(hown:aZ [.blk b 113 (bX g L),.blk g 173 (aI s a)] w)(hL:jS s)(hk:c.kind=7):
  aF prog 88 [.pointer (some ⟨b,0,none⟩),.agg (dR c).toArray] [.blk b 113 (bX g L),.blk g 173 (aI s a)] w (fun v S'=>v=.tuple #[]∧S'=[.blk b 113 (bX g L),.blk g 173 (aI s a)]):=by
 refine aJ func88 rfl ntmps88 rfl hown (fun _=>?_);simp only[aG];refine aB;refine lf rfl rfl rfl (S:=[.blk g 173 (aI s a)]) (fun w hw ho=>aV7 g s a w ho hL) ?_;rintro v S' ⟨rfl,rfl⟩;refine aB;refine bQ rfl rfl rfl (fun w hw=>bDf s.x s.y c w hk) ?_;refine aB;all_goals exact aGg rfl aA.au ⟨rfl,rfl⟩
theorem bDw(b g:Nat)(L:eE)(s:aL)(a:bR)(c:jH)(w:World)(hown:aZ [.blk b 113 (bX g L),.blk g 173 (aI s a)] w)(hL:jS s)(hk:c.kind=6)(hx:rC s.x)(hy:rC s.y)(ha:qS c.a)(hb:qS c.b)(hc:qS c.c)(hf:0≤L.fixes∧L.fixes≤1000000000):
  aF prog 88 [.pointer (some ⟨b,0,none⟩),.agg (dR c).toArray] [.blk b 113 (bX g L),.blk g 173 (aI s a)] w (fun v S'=>v=.tuple #[]∧S'=[.blk b 113 (bX g (aHc L c)),.blk g 173 (aI s a)]):=by
 have hx':=hx;have hy':=hy;have ha':=ha;have hb':=hb;unfold rC at hx' hy';unfold qS at ha' hb' hc;have e1:s.x+c.a-s.x=c.a:=oo;have e2:s.y+c.b-s.y=c.b:=oo;refine aJ func88 rfl ntmps88 rfl hown (fun _=>?_);simp only[aG];refine aB;refine lf rfl rfl rfl (S:=[.blk g 173 (aI s a)]) (fun w hw ho=>aV7 g s a w ho hL) ?_;rintro v S' ⟨rfl,rfl⟩;refine aB;refine bQ rfl rfl rfl (fun w hw=>bDe s.x s.y c hx hy ha hb w hk) ?_;refine aB;all_goals refine oX (S':=[.blk b 113 (bX g (aHc L c)),.blk g 173 (aI s a)]) rfl ?_ ⟨rfl,rfl⟩
 all_goals rw[e1,e2]
 all_goals exact aA.au
theorem uZ.up{ys f:List Int}{k k2:Nat}{b b2:Int}{s:aL}{a:bR}{ds:List jJ}{x1 x2:gJ}{T:List HE}(h:uZ ys f k b s a ds x1 x2 T)(hk:k≤k2)(hb:b≤b2):uZ ys f k2 b2 s a ds x1 x2 T:=⟨h.ok.up hk,h.near,h.dl,h.g,h.n,h.ca.mono rfl hb⟩
@[reducible] def lp0(loss:Int):eE:=⟨0,0,0,false,loss,0,0⟩
def LnR(ys:List Int)(cf:dJ)(x y loss:Int)(v:Value)(S':List HE):Prop :=
 ((loss<0∨65536<loss)∧v=.tuple #[.pointer none,.int .i64 2]∧S'=[]) ∨
 ((0≤loss∧loss≤65536)∧oR cf≠0∧v=.tuple #[.pointer none,.int .i64 (oR cf)]∧S'=[]) ∨
 ((0≤loss∧loss≤65536)∧oR cf=0∧∃(b g:Nat) (s0:aL) (a:bR) (T:List HE),v=.tuple #[.pointer (some ⟨b,0,none⟩),.int .i64 0]∧S'=.blk b 113 (bX g (lp0 loss))::nB g s0 a [] (none,0,[]) (none,0,[]) T∧(∃ptr,a=⟨ptr,none,0,none,0,none,0,none,0,none,0⟩ ∧
  ((s0 = kV cf x y ∧ pI ys 0 ∧ lP x y = true ∧ ∃ K : eT, K.ys = ys ∧ K.room = 8 ∧ ptr = some ⟨K.g, 0, none⟩ ∧ T = K.H (rD 8)) ∨
   (s0 = { kV cf x y with mode := 4 } ∧ ptr = none ∧ T = [] ∧ ((∃ code, code ≠ 0 ∧ pI ys code) ∨ (pI ys 0 ∧ lP x y = false))))))
def bDc(ys f:List Int)(k:Nat)(b:Int)(lb g:Nat)(L:eE)(r:aL×List jH)(v:Value)(S':List HE):Prop:=∃So a2 ds2 y1 y2 T2,aEq r.2 v So∧S'=So++(.blk lb 113 (bX g L)::nB g r.1 a2 ds2 y1 y2 T2)∧uZ ys f k b r.1 a2 ds2 y1 y2 T2
theorem aIx(A:Option Addr)(c:Nat)(ys:List Int)(cf:dJ)(x y loss:Int)(w:World)(hr:bF w (aV []) A ys.length c 1 (aC .u8 ys))(hu:dV ys)(hm:ys.length<100000000)(hl:aP .i64 loss):
  aF prog 86 [.slice A ys.length c,.agg (qP cf).toArray,.agg #[.int .i64 x,.int .i64 y],.int .i64 loss] [] w (LnR ys cf x y loss):=by
 refine aJ func86 rfl ntmps86 rfl ⟨aE,.nil⟩ (fun n=>?_);simp only[aG];by_cases hlo:0≤loss∧loss≤65536
 rotate_left
 ·refine aB;all_goals first
   | (exfalso;omega)
   | exact cM rfl rfl rfl (.nil _) (.inl ⟨oo,rfl,rfl⟩)
 ·have iA:∀w0 W H t u a b,MS prog w0 W H (.binOp .lss t a b u) [.int .i64 loss,.int .i64 0] (.bool false) True:=fun _ _ _ _ _ _ _=>bM inferInstance trivial (congrArg Value.bool (decide_eq_false oo));have iB:∀w0 W H t u a b,MS prog w0 W H (.binOp .gtr t a b u) [.int .i64 loss,.int .i64 65536] (.bool false) True:=fun _ _ _ _ _ _ _=>bM inferInstance trivial (congrArg Value.bool (decide_eq_false oo));refine aB;refine lf rfl rfl rfl (S:=[]) (fun w hw ho=>aGv A c ys cf x y w ⟨hr.h.go hw (aD.nil _)⟩ hu hm) ?_;rintro v S' (⟨h,rfl,rfl⟩ | ⟨h,g,s0,a,T,rfl,rfl,hT⟩)
  ·have iN:∀w0 W H t u a b,MS prog w0 W H (.binOp .neq t a b u) [.int .i64 (oR cf),.int .i64 0] (.bool true) True:=fun _ _ _ _ _ _ _=>bM inferInstance trivial (congrArg Value.bool (by simpa using h));refine aB;exact cM rfl rfl rfl (.nil _) (.inr (.inl ⟨hlo,h,rfl,rfl⟩))
  ·have iE0:∀w0 W H t u a b,MS prog w0 W H (.binOp .neq t a b u) [.int .i64 0,.int .i64 0] (.bool false) True:=fun _ _ _ _ _ _ _=>bM inferInstance trivial rfl;refine xC ?_;simp only[List.cons_append,List.nil_append];refine aB;rename_i b9;exact cM (S':=.blk b9 113 (bX g (lp0 loss))::nB g s0 a [] (none,0,[]) (none,0,[]) T) rfl rfl rfl aA.au (.inr (.inr ⟨hlo,h,b9,g,s0,a,T,rfl,rfl,hT⟩))
theorem aM0(ys f:List Int)(lb g k:Nat)(L:eE)(s:aL)(a:bR)(ds:List jJ)(x1 x2:gJ)(T:List HE)(x:jH)(b:Int)(w:World)(hown:aZ (.blk lb 113 (bX g L)::nB g s a ds x1 x2 T) w)(hI:uZ ys f k b s a ds x1 x2 T)(hLp:aE0 L s k)(hx:x.ok)(hk:k≤10000)(hb:b≤200000000000000000):
  aF prog 36 [.pointer (some ⟨lb,0,none⟩),.agg (dR x).toArray] (.blk lb 113 (bX g L)::nB g s a ds x1 x2 T) w (fun v S'=>bDc ys f (k+1) (b+6000000) lb g (eH L (eW s (jW (wY ys) (hY ys) f s x).1 x) (jW (wY ys) (hY ys) f s x).2) (jW (wY ys) (hY ys) f s x) v S'):=by
 obtain⟨-,htl⟩:=bBs (W:=wY ys) (H:=hY ys) (f:=f) s x;have hw2:=bBq (W:=wY ys) (H:=hY ys) (f:=f) hI.near hI.ok.mode x;have hTk:=fun w ho=>bC0 ys f g k s a ds x1 x2 T x b w ho hI hx oo hb;have hN:=hI.ok;generalize jW (wY ys) (hY ys) f s x=r at *;obtain⟨s2,out⟩:=r;dsimp only at htl hw2 hTk ⊢;obtain⟨hl1,hl2,-,-,hl5,hl6,-,-,-⟩:=hLp;have hml:s.ins.length=s.modes.length∧s.modes.length≤k:=hN.len;refine aJ func36 rfl ntmps36 rfl hown (fun _=>?_);simp only[aG];refine aB;rename_i b3;refine lf rfl rfl rfl (S:=[.blk lb 113 (bX g L),.blk g 173 (aI s a)]) (fun w hw ho=>aQ1 lb g L s a w ho hN.nvl ⟨Ro.row hw aD.au (by refine bV)⟩ ⟨Ro.row hw aD.au (by refine bV)⟩ oo) ?_;rintro v S' ⟨A2,c2,rfl,rfl⟩;refine aB;refine dL [.blk lb 113 (bX g L),.blk b3 67 (dR x)] [true,true,true,true,true,false,false] [5,6] aA.au rfl od bD ?_;repeat' (first|refine gB rfl rfl rfl ?_|(refine fZ rfl rfl rfl ?_ ?_;(next=>first|exact trivial|omega))|refine fO ?_)
 refine gH ?_;intro _;refine cF;refine fS (S:=nB g s a ds x1 x2 T) rfl rfl aD.au rfl (fun w hw ho=>hTk w ho) ?_;rintro v S' ⟨So,a2,ds2,y1,y2,T2,⟨A5,c5,rfl,rfl⟩,rfl,hI2⟩;dsimp only at hI2 ⊢;refine xC ?_;simp only[List.cons_append,List.nil_append];have hN2:=hI2.ok;have hml2:s2.ins.length=s2.modes.length∧s2.modes.length≤k+1:=hN2.len;have hoS:out.length=0∨(out.length=1∧(out.getD 0 default).kind=7)∨∃c2,out.length=2∧(out.getD 0 default).kind=7∧out.getD (0+1) default=c2∧s2.mode=2∧rU s2=some c2:=by
  rcases htl with rfl|rfl | ⟨c2,rfl,h1,-,h2⟩
  ·exact .inl rfl
  ·exact .inr (.inl ⟨rfl,rfl⟩)
  ·exact .inr (.inr ⟨c2,rfl,rfl,rfl,h1,h2⟩)
 have hL1:0≤(if eW s s2 x then aDe L else L).fixes∧(if eW s s2 x then aDe L else L).fixes≤1000000:=by
  cases eW s s2 x
  ·exact⟨hl5.1,by have:=hl5.2;show L.fixes≤_;omega⟩
  ·exact⟨hl5.1,by have:=hl5.2;show L.fixes≤_;omega⟩
 by_cases hk1:x.kind=1;have iK:∀w0 W H t u a b,MS prog w0 W H (.binOp .eql t a b u) [.int .i64 x.kind,.int .i64 1] (.bool true) True:=fun _ _ _ _ _ _ _=>bM inferInstance trivial (congrArg Value.bool (by simp[hk1]));have hmn:min (L.sure+L.loss) 1099511627776=L.sure+L.loss:=oo;by_cases hmm:s.modes.length<s2.modes.length;have hmv:eW s s2 x=true:=decide_eq_true ⟨hk1,hmm⟩;have iG:∀w0 W H t u a b,MS prog w0 W H (.binOp .gtr t a b u) [.int .i64 (s2.modes.length:Int),.int .i64 (s.modes.length:Int)] (.bool true) True:=fun _ _ _ _ _ _ _=>bM inferInstance trivial (congrArg Value.bool (decide_eq_true oo));refine cF;refine aB;refine lf rfl rfl rfl (S:=[.blk lb 113 (bX g L),.blk g 173 (aI s2 a2)]) (fun w hw ho=>aQ1 lb g L s2 a2 w ho hN2.nvl ⟨Ro.row hw aD.au (by refine bV)⟩ ⟨Ro.row hw aD.au (by refine bV)⟩ oo) ?_;rintro v S' ⟨A9,c9,rfl,rfl⟩;refine aB;rw[hmn];refine kF (H':=.row (.slice A5 out.length c5) 67 6 out.length (aR dR out)::.blk lb 113 (bX g (if eW s s2 x then aDe L else L))::nB g s2 a2 ds2 y1 y2 T2) (by rw[hmv,if_pos rfl];exact aA.au) ?_;clear iG iK
 rotate_left
 have hmv:eW s s2 x=false:=decide_eq_false (fun h=>hmm h.2);have iG:∀w0 W H t u a b,MS prog w0 W H (.binOp .gtr t a b u) [.int .i64 (s2.modes.length:Int),.int .i64 (s.modes.length:Int)] (.bool false) True:=fun _ _ _ _ _ _ _=>bM inferInstance trivial (congrArg Value.bool (decide_eq_false oo));refine cF;refine aB;refine lf rfl rfl rfl (S:=[.blk lb 113 (bX g L),.blk g 173 (aI s2 a2)]) (fun w hw ho=>aQ1 lb g L s2 a2 w ho hN2.nvl ⟨Ro.row hw aD.au (by refine bV)⟩ ⟨Ro.row hw aD.au (by refine bV)⟩ oo) ?_;rintro v S' ⟨A9,c9,rfl,rfl⟩;refine aB;refine kF (H':=.row (.slice A5 out.length c5) 67 6 out.length (aR dR out)::.blk lb 113 (bX g (if eW s s2 x then aDe L else L))::nB g s2 a2 ds2 y1 y2 T2) (by rw[hmv,if_neg od];exact aA.au) ?_;clear iG iK
 rotate_left
 have hmv:eW s s2 x=false:=decide_eq_false (fun h=>hk1 h.1);have iK:∀w0 W H t u a b,MS prog w0 W H (.binOp .eql t a b u) [.int .i64 x.kind,.int .i64 1] (.bool false) True:=fun _ _ _ _ _ _ _=>bM inferInstance trivial (congrArg Value.bool (by simp[hk1]));refine cF;refine aB;refine kF (H':=.row (.slice A5 out.length c5) 67 6 out.length (aR dR out)::.blk lb 113 (bX g (if eW s s2 x then aDe L else L))::nB g s2 a2 ds2 y1 y2 T2) (by rw[hmv,if_neg od];exact aA.au) ?_;clear iK
 rotate_left
 all_goals unfold eH
 all_goals generalize (if eW s s2 x then aDe L else L)=L1 at *
 all_goals
  rcases hoS with ho | ⟨ho,hk0⟩ | ⟨c2,ho,hk0,hk1,hm2,hc2⟩
  ·rw[if_neg oo];refine aB;refine vG 1 ?_;refine aB;all_goals try (exfalso;omega)
   all_goals exact aK (S':=.row (.slice A5 out.length c5) 67 6 out.length (aR dR out)::.blk lb 113 (bX g L1)::nB g s2 a2 ds2 y1 y2 T2) rfl rfl aA.au ⟨[_],a2,ds2,y1,y2,T2,⟨A5,c5,rfl,rfl⟩,rfl,hI2⟩
  ·rw[if_neg oo];refine uI (A:=A5) (m:=out.length) (cc:=c5) oo (fun ga hga=>?_);subst hga;refine aB;refine vG 2 ?_;refine aB;all_goals try (exfalso;omega)
   refine lf rfl rfl rfl (S:=[.blk lb 113 (bX g L1),.blk g 173 (aI s2 a2)]) (fun w hw ho=>bD7 lb g L1 s2 a2 (out.getD 0 default) w ho hN2.nvl hk0) ?_;rintro v S' ⟨rfl,rfl⟩;refine aB;all_goals try (exfalso;omega)
   all_goals exact aK (S':=.row (.slice (some ⟨ga,0,none⟩) out.length c5) 67 6 out.length (aR dR out)::.blk lb 113 (bX g L1)::nB g s2 a2 ds2 y1 y2 T2) rfl rfl aA.au ⟨[_],a2,ds2,y1,y2,T2,⟨some ⟨ga,0,none⟩,c5,rfl,rfl⟩,rfl,hI2⟩
  ·rw[if_pos ho];obtain⟨k6,-,-,fa,fb⟩:=bD5 hc2;obtain⟨fc,-⟩:=aXn hc2;have hxy:=of_decide_eq_true (hw2 (by rw[hm2];decide));rw[← hk1]at k6 fa fb fc;refine uI (A:=A5) (m:=out.length) (cc:=c5) oo (fun ga hga=>?_);subst hga;refine aB;refine vG 3 ?_;refine aB;all_goals try (exfalso;omega)
   refine lf rfl rfl rfl (S:=[.blk lb 113 (bX g L1),.blk g 173 (aI s2 a2)]) (fun w hw ho=>bD7 lb g L1 s2 a2 (out.getD 0 default) w ho hN2.nvl hk0) ?_;rintro v S' ⟨rfl,rfl⟩;refine aB;all_goals try (exfalso;omega)
   refine lf rfl rfl rfl (S:=[.blk lb 113 (bX g L1),.blk g 173 (aI s2 a2)]) (fun w hw ho=>bDw lb g L1 s2 a2 (out.getD (0+1) default) w ho hN2.nvl k6 (by unfold rC;omega) (by unfold rC;omega) fa fb fc oo) ?_;rintro v S' ⟨rfl,rfl⟩;refine aB;all_goals try (exfalso;omega)
   all_goals exact aK (S':=.row (.slice (some ⟨ga,0,none⟩) out.length c5) 67 6 out.length (aR dR out)::.blk lb 113 (bX g (aHc L1 (out.getD 1 default)))::nB g s2 a2 ds2 y1 y2 T2) rfl rfl aA.au ⟨[_],a2,ds2,y1,y2,T2,⟨some ⟨ga,0,none⟩,c5,rfl,rfl⟩,rfl,hI2⟩
@[reducible] def eL(x:Int):Prop:=-1099511627776≤x∧x≤1099511627776
def aEo(bx b_y x y:Int):Value:=if eL x∧eL y∧eL bx∧eL b_y then .tuple #[.int .u64 (qF ((x-bx)*(x-bx)+(y-b_y)*(y-b_y)) 64),.bool true]else .tuple #[.int .u64 0,.bool false]
theorem bE1{bx b_y x y:Int}(h:¬((-1099511627776≤x∧x≤1099511627776)∧(-1099511627776≤y∧y≤1099511627776)∧(-1099511627776≤bx∧bx≤1099511627776)∧(-1099511627776≤b_y∧b_y≤1099511627776))): .tuple #[.int .u64 0,.bool false]=aEo bx b_y x y:=(if_neg h).symm
theorem bE2{bx b_y x y:Int}(h:(-1099511627776≤x∧x≤1099511627776)∧(-1099511627776≤y∧y≤1099511627776)∧(-1099511627776≤bx∧bx≤1099511627776)∧(-1099511627776≤b_y∧b_y≤1099511627776)): .tuple #[.int .u64 (qF ((x-bx)*(x-bx)+(y-b_y)*(y-b_y)) 64),.bool true]=aEo bx b_y x y:=(if_pos h).symm
theorem aQ6(b g:Nat)(L:eE)(s:aL)(a:bR)(x y:Int)(w:World)(hown:aZ [.blk b 113 (bX g L),.blk g 173 (aI s a)] w)(hL:jS s)(hbx:aP .i64 (s.x+L.dx))(hby:aP .i64 (s.y+L.dy)):
  aF prog 42 [.pointer (some ⟨b,0,none⟩),.agg #[.int .i64 x,.int .i64 y]] [.blk b 113 (bX g L),.blk g 173 (aI s a)] w (fun v S'=>v=aEo (s.x+L.dx) (s.y+L.dy) x y∧S'=[.blk b 113 (bX g L),.blk g 173 (aI s a)]):=by
 refine aJ func42 rfl ntmps42 rfl hown (fun _=>?_);simp only[aG];refine aB;refine lf rfl rfl rfl (S:=[.blk b 113 (bX g L),.blk g 173 (aI s a)]) (fun w hw ho=>aIs b g L s a w ho hL hbx hby) ?_;rintro v S' ⟨rfl,rfl⟩;obtain⟨bx,hx1⟩:∃q,s.x+L.dx=q:=⟨_,rfl⟩;obtain⟨b_y,hy1⟩:∃q,s.y+L.dy=q:=⟨_,rfl⟩;rw[hx1,hy1];clear hx1 hy1 hbx hby;refine aB;refine vG 5 ?_;refine aB;all_goals first
  | (exfalso;omega)
  | exact cM (S':=[.blk b 113 (bX g L),.blk g 173 (aI s a)]) rfl rfl rfl aA.au ⟨bE1 oo,rfl⟩
  | exact cM (S':=[.blk b 113 (bX g L),.blk g 173 (aI s a)]) rfl rfl rfl aA.au ⟨bE2 oo,rfl⟩
def aQe(L:eE)(bx b_y x y times:Int):Bool:=decide ((eL x∧eL y∧eL bx∧eL b_y)∧L.known=true∧1≤times∧times≤100∧qF ((x-bx)*(x-bx)+(y-b_y)*(y-b_y)) 64≤times*L.sure)
theorem bDy(b g:Nat)(L:eE)(s:aL)(a:bR)(x y times:Int)(w:World)(hown:aZ [.blk b 113 (bX g L),.blk g 173 (aI s a)] w)(hL:jS s)(hbx:aP .i64 (s.x+L.dx))(hby:aP .i64 (s.y+L.dy))(hs:0≤L.sure∧L.sure≤1099511627776):
  aF prog 41 [.pointer (some ⟨b,0,none⟩),.agg #[.int .i64 x,.int .i64 y],.int .i64 times] [.blk b 113 (bX g L),.blk g 173 (aI s a)] w (fun v S'=>v=.bool (aQe L (s.x+L.dx) (s.y+L.dy) x y times)∧S'=[.blk b 113 (bX g L),.blk g 173 (aI s a)]):=by
 have hO:=fun w ho=>aQ6 b g L s a x y w ho hL hbx hby;unfold aQe;unfold aEo at hO;obtain⟨dx,dy,sure,known,loss,fixes,since⟩:=L;dsimp only[bX]at hown hs hO ⊢;have hrt:=aNw ((x-(s.x+dx))*(x-(s.x+dx))+(y-(s.y+dy))*(y-(s.y+dy))) 64;generalize qF ((x-(s.x+dx))*(x-(s.x+dx))+(y-(s.y+dy))*(y-(s.y+dy))) 64=rt at *;generalize s.x+dx=bx at *;generalize s.y+dy=b_y at *;refine aJ func41 rfl ntmps41 rfl hown (fun _=>?_);simp only[aG];by_cases hc:eL x∧eL y∧eL bx∧eL b_y
 ·rw[if_pos hc]at hO;have iC:∀p:Prop,∀_:Decidable p,decide ((eL x∧eL y∧eL bx∧eL b_y)∧p)=decide p:=fun p _=>decide_eq_decide.2 ⟨fun h=>h.2,fun h=>⟨hc,h⟩⟩;rw[iC];clear iC;refine aB;refine lf rfl rfl rfl (S:=[.blk b 113 (bX g ⟨dx,dy,sure,known,loss,fixes,since⟩),.blk g 173 (aI s a)]) (fun w hw ho=>hO w ho) ?_;rintro v S' ⟨rfl,rfl⟩;cases known
  ·refine aB;exact aK (S':=[.blk b 113 (bX g ⟨dx,dy,sure,false,loss,fixes,since⟩),.blk g 173 (aI s a)]) rfl rfl aA.au ⟨aE,rfl⟩
  ·by_cases ht:1≤times∧times≤100
   ·have hm:=cN (a:=times) (b:=sure) (A:=100) (B:=1099511627776) oo oo;have iA:∀w0 W H t u a b,MS prog w0 W H (.binOp .geq t a b u) [.int .i64 times,.int .i64 1] (.bool true) True:=fun _ _ _ _ _ _ _=>bM inferInstance trivial (congrArg Value.bool (decide_eq_true oo));have iB:∀w0 W H t u a b,MS prog w0 W H (.binOp .leq t a b u) [.int .i64 times,.int .i64 100] (.bool true) True:=fun _ _ _ _ _ _ _=>bM inferInstance trivial (congrArg Value.bool (decide_eq_true oo));refine aB;exact aK (S':=[.blk b 113 (bX g ⟨dx,dy,sure,true,loss,fixes,since⟩),.blk g 173 (aI s a)]) rfl rfl aA.au ⟨by simp[ht.1,ht.2],rfl⟩
   ·refine aB;all_goals first
     | (exfalso;omega)
     | exact aK (S':=[.blk b 113 (bX g ⟨dx,dy,sure,true,loss,fixes,since⟩),.blk g 173 (aI s a)]) rfl rfl aA.au ⟨congrArg Value.bool (by simp;omega),rfl⟩
 ·rw[if_neg hc]at hO;rw[decide_eq_false (fun h=>hc h.1)];refine aB;refine lf rfl rfl rfl (S:=[.blk b 113 (bX g ⟨dx,dy,sure,known,loss,fixes,since⟩),.blk g 173 (aI s a)]) (fun w hw ho=>hO w ho) ?_;rintro v S' ⟨rfl,rfl⟩;refine aB;exact aK (S':=[.blk b 113 (bX g ⟨dx,dy,sure,known,loss,fixes,since⟩),.blk g 173 (aI s a)]) rfl rfl aA.au ⟨rfl,rfl⟩
theorem aUu{L:eE}{s:aL}{k:Nat}(h:aE0 L s k)(hN:cX s k)(hk:k≤100):aP .i64 (s.x+L.dx)∧aP .i64 (s.y+L.dy)∧(L.known=true→eL (s.x+L.dx)∧eL (s.y+L.dy)):=by
 have h1 : -9223372036854775808≤s.x∧s.x≤9223372036854775807:=hN.xy.1;have h2 : -9223372036854775808≤s.y∧s.y≤9223372036854775807:=hN.xy.2;have d1:=h.dx;have d2:=h.dy;cases hk:L.known
 ·obtain⟨e1,e2⟩:=h.no hk;rw[e1,e2,Int.add_zero,Int.add_zero];exact⟨hN.xy.1,hN.xy.2,fun e=>by cases e⟩
 ·obtain⟨f1,f2⟩:=h.far hk;refine⟨?_,?_,fun _=>⟨by unfold eL;omega,by unfold eL;omega⟩⟩
  ·show (-9223372036854775808:Int)≤_∧_≤(9223372036854775807:Int);omega
  ·show (-9223372036854775808:Int)≤_∧_≤(9223372036854775807:Int);omega
theorem bE9{L:eE}{m:Bool}{out:List jH}(h:out.length≠2):(eH L m out).fixes=L.fixes∧(eH L m out).loss=L.loss∧(eH L m out).sure-(eH L m out).since*L.loss=L.sure-L.since*L.loss∧(eH L m out).dx=L.dx∧(eH L m out).dy=L.dy:=by
 unfold eH;rw[if_neg h];cases m
 ·exact⟨rfl,rfl,rfl,rfl,rfl⟩
 ·refine⟨rfl,rfl,?_,rfl,rfl⟩;show L.sure+L.loss-(L.since+1)*L.loss=_;rw[Int.add_mul,Int.one_mul];omega
theorem bEa{L:eE}{m:Bool}{out:List jH}(h:out.length=2):(eH L m out).fixes=L.fixes+1∧(eH L m out).loss=L.loss∧(eH L m out).sure=(out.getD 1 default).c∧(eH L m out).since=0∧(eH L m out).dx=(out.getD 1 default).a∧(eH L m out).dy=(out.getD 1 default).b:=by unfold eH;rw[if_pos h];cases m<;>exact⟨rfl,rfl,rfl,rfl,rfl,rfl⟩
@[reducible] def cfC(need power tries spread:Int):dJ:=⟨5000,1048576,0,1048576,255,640,4,3,power,tries,⟨3000,400,5⟩,2,256,64,need,0,1,1,1,500,spread⟩
def bDd(out:List jH):Prop:=out.length=0∨(out.length=1∧(out.getD 0 default).kind=7)∨(out.length=2∧(out.getD 0 default).kind=7∧(out.getD 1 default).kind=6)
theorem aAk.outS{s:aL}{out:List jH}(h:aAk s out):bDd out:=by
 rcases h with rfl|rfl | ⟨c,rfl,-,-,hc⟩
 ·exact .inl rfl
 ·exact .inr (.inl ⟨rfl,rfl⟩)
 ·exact .inr (.inr ⟨rfl,rfl,(bD5 hc).1⟩)
instance confG_cv(a b c d:Int):CV prog 49 [.int .u8 a,.int .u8 b,.int .u8 c,.int .u8 d] (.agg (qP (cfC (2+b%5) (1+c%30) (1+d%4) (a%86))).toArray) ((0≤a∧a≤255)∧(0≤b∧b≤255)∧(0≤c∧c≤255)∧0≤d∧d≤255):=⟨fun hc w=>by have iL:xZ [(0,4),(4,6),(10,3),(13,1),(14,1),(15,1),(16,1),(17,1),(18,1),(19,1),(20,1),(21,1),(22,1)] [.int .u32 0,.int .i64 0,.int .i64 0,.int .i64 0,.int .i64 0,.int .i64 0,.int .i64 0,.int .i64 0,.int .i64 0,.int .i64 0,.int .i64 0,.int .i64 0,.int .i64 0,.int .i64 0,.int .i64 0,.int .i64 0,.int .i64 0,.int .i64 0,.int .i64 0,.int .i64 0,.int .i64 0,.int .i64 0,.int .i64 0] [(0,.agg #[.int .u32 5000,.int .i64 1048576,.int .i64 0,.int .i64 1048576]),(1,.agg #[.int .i64 255,.int .i64 640,.int .i64 4,.int .i64 3,.int .i64 (1+c%30),.int .i64 (1+d%4)]),(2,.agg #[.int .i64 3000,.int .i64 400,.int .i64 5]),(3,.int .i64 2),(4,.int .i64 256),(5,.int .i64 64),(6,.int .i64 (2+b%5)),(7,.int .i64 0),(8,.int .i64 1),(9,.int .i64 1),(10,.int .i64 1),(11,.int .i64 500),(12,.int .i64 (a%86))] (qP (cfC (2+b%5) (1+c%30) (1+d%4) (a%86))):=⟨by kernel_rfl⟩;have iO:jK [.int .u32 0,.int .i64 0,.int .i64 0,.int .i64 0,.int .i64 0,.int .i64 0,.int .i64 0,.int .i64 0,.int .i64 0,.int .i64 0,.int .i64 0,.int .i64 0,.int .i64 0,.int .i64 0,.int .i64 0,.int .i64 0,.int .i64 0,.int .i64 0,.int .i64 0,.int .i64 0,.int .i64 0,.int .i64 0,.int .i64 0] 0 (qP (cfC (2+b%5) (1+c%30) (1+d%4) (a%86))) (qP (cfC (2+b%5) (1+c%30) (1+d%4) (a%86))):=⟨by exact⟨rfl,Nat.le_refl 23⟩⟩;refine aJ func49 rfl ntmps49 rfl ⟨aE,.nil⟩ (fun _=>?_);simp only[aG];refine aB;refine bI;exact⟨rfl,rfl⟩⟩
theorem bDz(a b:Int)(ha:aP .u8 a)(hb:aP .u8 b)(A:Option Addr)(c:Nat)(z:List Int)(cf:dJ)(hcf:oR cf=0)(x y:Int)(hxy:aP .i64 x∧aP .i64 y)(loss:Int)(hl:0≤loss∧loss≤65535)(w:World)(hr:bF w (aV []) A z.length c 1 (aC .i16 z))(hz:∀x∈z,aP .i16 x)(hm:z.length<1000000):
  aF prog 31 [.int .u8 a,.int .u8 b,.slice A z.length c,.agg (qP cf).toArray,.agg #[.int .i64 x,.int .i64 y],.int .u16 loss] [] w
   (fun v S'=>∃(lb g g2:Nat) (s0:aL) (an an2:bR) (T T2:List HE) (W H:Nat) (f:List Int),v=.tuple #[.pointer (some ⟨lb,0,none⟩),.pointer (some ⟨g2,0,none⟩),.bool true] ∧
    S'=.blk lb 113 (bX g (lp0 loss))::nB g s0 an [] (none,0,[]) (none,0,[]) (nB g2 s0 an2 [] (none,0,[]) (none,0,[]) (T++T2)) ∧
    uZ (fR W H 30 0 0 f) f 0 0 s0 an [] (none,0,[]) (none,0,[]) T∧uZ (fR W H 30 0 0 f) f 0 0 s0 an2 [] (none,0,[]) (none,0,[]) T2∧(s0=kV cf x y∨s0 = { kV cf x y with mode:=4 })):=by
 have ha1:0≤a∧a≤255:=ha;have hb1:0≤b∧b≤255:=hb;obtain⟨W,hW,hW1⟩:∃x:Nat,2+(10+a%29)%39=(x:Int)∧2≤x∧x≤40:=⟨(2+(10+a%29)%39).toNat,oo,oo⟩;obtain⟨H,hH,hH1⟩:∃x:Nat,2+(10+b%29)%39=(x:Int)∧2≤x∧x≤40:=⟨(2+(10+b%29)%39).toNat,oo,oo⟩;refine aJ func31 rfl ntmps31 rfl ⟨aE,.nil⟩ (fun n=>?_);simp only[aG];refine aB;refine lf rfl rfl rfl (S:=[]) (fun w hw ho=>aWj (10+a%29) (10+b%29) (by show (0:Int)≤_∧_≤(255:Int);omega) (by show (0:Int)≤_∧_≤(255:Int);omega) W H hW hH A c z 29 od 0 0 w ⟨hr.h.go hw (aD.nil _)⟩ hm) ?_;rintro v S' ⟨Af,cfl,rfl,rfl⟩;have hfl:=aKq z (W*H);have hfi:=aTw hz (W*H);generalize mD z (W*H)=f at *;rw[show (1+29%1000:Int)=((30:Nat):Int) by decide];have hcb:2≤W∧W≤256∧2≤H∧H≤256∧1≤30∧30≤1000:=oo;have hF:=aF9 (ox:=0) (oy:=0) hcb hfl hfi (by omega:1≤8∧8≤32);have hget:=aJv (ox:=0) (oy:=0) hcb hfl hfi;refine aB;refine lf rfl rfl rfl (S:=[]) (fun w hw ho=>aRj W H 30 Af cfl f 0 0 w ⟨Ro.row hw (aD.nil _) (by refine bV)⟩ hcb hfl hfi od od) ?_;rintro v S' ⟨Ab,cb,rfl,rfl⟩;have hu:=hF.u8;have hln:=hF.len;generalize hbb:fR W H 30 0 0 f=bb at *;refine aB;refine lf rfl rfl rfl (S:=[]) (fun w hw ho=>aIx Ab cb bb cf x y loss w ⟨Ro.row hw (aD.nil _) (by refine bV)⟩ hu hln (by show (-9223372036854775808:Int)≤_∧_≤(9223372036854775807:Int);omega)) ?_;rintro v S' (⟨h,-⟩ | ⟨-,h,-⟩ | ⟨-,-,lb,g,s0,an,T,rfl,rfl,ptr,han,hT⟩)
 ·exfalso;omega
 ·exact absurd hcf h
 have hI:=aX7 (f:=f) hcf hxy hF han hT;refine xC ?_;simp only[List.cons_append,List.nil_append];refine aB;refine lf rfl rfl rfl (S:=[]) (fun w hw ho=>aGv Ab cb bb cf x y w ⟨Ro.row hw (aD.nil _) (by refine bV)⟩ hu hln) ?_;rintro v S' (⟨h,-⟩ | ⟨-,g2,s2,an2,T2,rfl,rfl,ptr2,han2,hT2⟩)
 ·exact absurd hcf h
 have hI2:=aX7 (f:=f) hcf hxy hF han2 hT2;have hss:s2=s0∧(s0=kV cf x y∨s0 = { kV cf x y with mode:=4 }):=by
  rcases hT with⟨h1,-,hw1,-⟩ | ⟨h1,-,-,hb1⟩
  ·rcases hT2 with⟨h2,-,-,-⟩ | ⟨h2,-,-,⟨code,hne,hg⟩ | ⟨-,hw2⟩⟩
   ·exact⟨h2.trans h1.symm,.inl h1⟩
   ·exact absurd (hg.one hget) hne
   ·rw[hw1]at hw2;cases hw2
  ·rcases hT2 with⟨h2,-,hw2,-⟩ | ⟨h2,-⟩
   ·rcases hb1 with⟨code,hne,hg⟩ | ⟨-,hw1⟩
    ·exact absurd (hg.one hget) hne
    ·rw[hw1]at hw2;cases hw2
   ·exact⟨h2.trans h1.symm,.inr h1⟩
 obtain⟨rfl,hs0⟩:=hss;clear hT hT2;refine xC ?_;simp only[List.cons_append,List.nil_append];refine aB;refine eD (S':=.blk lb 113 (bX g (lp0 loss))::nB g s2 an [] (none,0,[]) (none,0,[]) (nB g2 s2 an2 [] (none,0,[]) (none,0,[]) (T++T2))) aA.au ?_;refine cY;exact⟨lb,g,g2,s2,an,an2,T,T2,W,H,f,rfl,rfl,by rw[hbb];exact hI,by rw[hbb];exact hI2,hs0⟩
end Go.Proofs.YtpmkboockihdbaaGreat
namespace Go.Proofs.YtpmkboockihdbaaGreat
open Go.RowKit _root_.Go.Proofs.Tryz
theorem bE0{P:Program}{w0:World}{W:Nat→Prop}{H:List HE}{o:BinOp}{t u:TypeId}{x y:Operand}{vs:List Value}{v:Value}(hp:PV P (.binOp o t x y u) vs v True):MS P w0 W H (.binOp o t x y u) vs v True:=⟨by intro _ F n N ds σ dd ty pos aft gd K Q _ hv hdN h;haveI:=hp;exact dS aE rfl hdN (fun a w ha _=>aDq (o:=⟨some dd,_,ty,pos,aft,gd⟩) hv trivial a.eval (fun x _ u hu=>ha.eval hu) w) h⟩
theorem bE5(t u:TypeId)(x y:Operand)(a b:Int)(ht:t=44):PV prog (.binOp .neq t x y u) [.agg #[.int .i64 a,.int .i64 b],.agg #[.int .i64 a,.int .i64 b]] (.bool false) True:=⟨by
 subst ht;rintro _ ρ ⟨dst,op',ty,pos,aft,gd⟩ rfl h w;obtain⟨h1,h2⟩:=qZ h;have u2:=underlying2;have a2:=Tryz.isAgg2;have z2:=Tryz.sizeOf2;have hS:prog.underlying 44=some (.struct (prog.fieldsOf 44)):=by kernel_rfl
 have hp:prog.stoodInHeld 44=false:=by kernel_rfl
 have hm:prog.eqGuardType prog.depth 44=false:=by kernel_rfl
 simp only[execOp,h1,h2,Sem.run_bind,run_eqGuard_agg w _ _ _ _ _ _ hm,Result.andThen_ok];rw[run_neq_struct,show (10000:Nat)=9999+1 from rfl,run_equalIn_agg w 9999 44 _ _ hS hp];simp only[Program.fieldsOf,underlying44]
 go_simp⟩
instance (priority:=2000) inst45_4(u:TypeId)(x y:Operand)(a b:Int):PV prog (.binOp .neq 44 x y u) [.agg #[.int .i64 a,.int .i64 b],.agg #[.int .i64 a,.int .i64 b]] (.bool false) True:=bE5 44 u x y a b rfl
instance (priority:=2000) pv_spotT(u:TypeId)(x y:Operand)(a b:Int):PV prog (.binOp .eql 44 x y u) [.agg #[.int .i64 a,.int .i64 b],.agg #[.int .i64 a,.int .i64 b]] (.bool true) True:=by have hp:=bE7 44 u x y a b a b rfl;simp only[beq_self_eq_true,Bool.and_self]at hp;exact hp
instance (priority:=2000) inst45_6{w0:World}{W:Nat→Prop}{H:List HE}(u:TypeId)(x y:Operand)(a b:Int):MS prog w0 W H (.binOp .eql 44 x y u) [.agg #[.int .i64 a,.int .i64 b],.agg #[.int .i64 a,.int .i64 b]] (.bool true) True:=bE0 (pv_spotT u x y a b)
def f46:List Int:=mD [5,9,4] (14*14)
@[reducible] def c46:dJ:=cfC (2+2%5) (1+3%30) (1+0%4) (1%86)
theorem aFr{k s t a b c:Int}(h1:aP .i64 k)(h2:aP .u16 s)(h3:aP .u32 t)(h4:aP .i32 a)(h5:aP .i32 b)(h6:aP .i32 c):(⟨k,s,t,a,b,c⟩:jH).ok:=⟨h1,h2,h3,h4,h5,h6⟩
theorem aW1:oR c46=0:=by decide +kernel
theorem aUv:oR aCs=2:=by decide
@[reducible] def x46:jH:=⟨5,1,0,1,0,0⟩
@[reducible] def fX:jH:=⟨1,2,0,100,-7,0⟩
def bY:Nat→aL
 | 0=>kV c46 500 0
 | 1=>(jW 14 14 f46 (bY 0) x46).1
 | k+2=>(jW 14 14 f46 (bY (k+1)) fX).1
def fY:Nat→eE
 | 0=>lp0 3
 | 1=>eH (fY 0) (eW (bY 0) (bY 1) x46) (jW 14 14 f46 (bY 0) x46).2
 | k+2=>eH (fY (k+1)) (eW (bY (k+1)) (bY (k+2)) fX) (jW 14 14 f46 (bY (k+1)) fX).2
theorem bEe:(jW 14 14 f46 (bY 0) x46).2.length=1∧(jW 14 14 f46 (bY 1) fX).2.length=0:=by decide +kernel
theorem bEi:(bY 3).mode=1∧(bY 3).x=600∧(bY 3).y = -7:=by decide +kernel
theorem bEf:(fY 3).dx=0∧(fY 3).dy=0∧(fY 3).sure=3∧(fY 3).known=false∧(fY 3).fixes=0∧(fY 3).since=1:=by decide +kernel
theorem bEg:aEo 600 (-7) 603 (-3)=.tuple #[.int .u64 5,.bool true]:=by unfold aEo;rw[if_pos od,show qF ((603-600)*(603-600)+(-3 - -7)*(-3 - -7)) 64=5 by decide +kernel]
theorem bEh:aEo 600 (-7) 2199023255552 0=.tuple #[.int .u64 0,.bool false]:=if_neg od
theorem bD6{loss:Int}(h:0≤loss∧loss≤65536)(s:aL):aE0 (lp0 loss) s 0:=⟨h,by show (0:Int)≤0∧(0:Int)≤1073741824+65536*((0:Nat):Int);decide,by show (-1073741824:Int)≤0∧(0:Int)≤1073741824;decide,by show (-1073741824:Int)≤0∧(0:Int)≤1073741824;decide,by show (0:Int)≤0∧(0:Int)≤((0:Nat):Int);decide,by show (0:Int)≤0∧(0:Int)≤((0:Nat):Int);decide,rfl,fun _=>⟨rfl,rfl⟩,fun h=>absurd h (by show ¬(false=true);decide)⟩
attribute [local irreducible] OJ J bO Code.wpIn wpListIn Oper.wpIn bodyPost CallsIn aF
theorem bEj(w:World):aF prog 30 [] [] w (fun v S'=>v=.bool true∧S'=[]):=by
 have hcb:2≤14∧14≤256∧2≤14∧14≤256∧1≤31∧31≤1000:=oo;refine aJ func30 rfl ntmps30 rfl ⟨aE,.nil⟩ (fun n=>?_);simp only[aG];refine aB;refine lf rfl rfl rfl (S:=[]) (fun w hw ho=>aWj 12 12 od od 14 14 od od _ _ [5,9,4] 30 od 0 0 w ⟨Ro.row hw (aD.nil _) (by refine bV)⟩ od) ?_;rintro v S' ⟨Af,cfl,rfl,rfl⟩;have hfl:=aKq [5,9,4] (14*14);have hfi:=aTw (z:=[5,9,4]) od (14*14);obtain⟨f,hf⟩:∃f,mD [5,9,4] (14*14)=f:=⟨_,rfl⟩;rw[hf]at hfl hfi ⊢;rw[show (1+30%1000:Int)=((31:Nat):Int) by decide];have hf46:f46=f:=hf;clear hf;have hF:=aF9 (ox:=0) (oy:=0) hcb hfl hfi (by omega:1≤8∧8≤32);have hget:=aJv (ox:=0) (oy:=0) hcb hfl hfi;obtain⟨-,h2,h3,-,-,-⟩:=aAw (ox:=0) (oy:=0) (z:=f) (W:=14) (H:=14) (cell:=31) oo;refine aB;refine lf rfl rfl rfl (S:=[]) (fun w hw ho=>aRj 14 14 31 Af cfl f 0 0 w ⟨Ro.row hw (aD.nil _) (by refine bV)⟩ hcb hfl hfi od od) ?_;rintro v S' ⟨Ab,cb,rfl,rfl⟩;have hu:=hF.u8;have hln:=hF.len;generalize fR 14 14 31 0 0 f=bb at *;refine aB;refine lf rfl rfl rfl (S:=[]) (fun w hw ho=>aIx Ab cb bb c46 500 0 3 w ⟨Ro.row hw (aD.nil _) (by refine bV)⟩ hu hln od) ?_;rintro v S' (⟨h,-⟩ | ⟨-,h,-⟩ | ⟨-,-,lb,g,s0,a0,T,rfl,rfl,ptr,ha,hT⟩)
 ·exfalso;omega
 ·exact absurd aW1 h
 have hI:=aX7 (f:=f) aW1 (x:=500) (y:=0) (by exact⟨od,od⟩) hF ha hT;have hs0:s0=bY 0:=by
  rcases hT with⟨h,-⟩ | ⟨-,-,-,⟨code,hne,h⟩ | ⟨-,h⟩⟩
  ·exact h
  ·exact absurd (h.one hget) hne
  ·exact absurd h od
 subst hs0;clear hT;refine xC ?_;simp only[List.cons_append,List.nil_append];refine aB;refine lf rfl rfl rfl (S:=[]) (fun w hw ho=>aIx Ab cb bb c46 0 0 (-1) w ⟨Ro.row hw (aD.nil _) (by refine bV)⟩ hu hln od) ?_;rintro v S' (⟨-,rfl,rfl⟩ | ⟨h,-⟩ | ⟨h,-⟩)
 rotate_left
 ·exfalso;omega
 ·exfalso;omega
 refine aB;refine lf rfl rfl rfl (S:=[]) (fun w hw ho=>aIx Ab cb bb aCs 0 0 0 w ⟨Ro.row hw (aD.nil _) (by refine bV)⟩ hu hln od) ?_;rintro v S' (⟨h,-⟩ | ⟨-,-,rfl,rfl⟩ | ⟨-,h,-⟩)
 ·exfalso;omega
 rotate_left
 ·exact absurd h (by rw[aUv];decide)
 rw[aUv];refine aB;have hLp:=bD6 (loss:=3) od (bY 0);obtain⟨o1,o2⟩:=bEe;rw[hf46]at o1 o2;have e1:(jW (wY bb) (hY bb) f (bY 0) x46).1=bY 1:=by rw[h2,h3,← hf46];rfl
 have e2:(jW (wY bb) (hY bb) f (bY 1) fX).1=bY 2:=by rw[h2,h3,← hf46];rfl
 have e3:(jW (wY bb) (hY bb) f (bY 2) fX).1=bY 3:=by rw[h2,h3,← hf46];rfl
 have g1:eH (lp0 3) (eW (bY 0) (jW (wY bb) (hY bb) f (bY 0) x46).1 x46) (jW (wY bb) (hY bb) f (bY 0) x46).2=fY 1:=by rw[h2,h3,← hf46];rfl
 have g2:eH (fY 1) (eW (bY 1) (jW (wY bb) (hY bb) f (bY 1) fX).1 fX) (jW (wY bb) (hY bb) f (bY 1) fX).2=fY 2:=by rw[h2,h3,← hf46];rfl
 have g3:eH (fY 2) (eW (bY 2) (jW (wY bb) (hY bb) f (bY 2) fX).1 fX) (jW (wY bb) (hY bb) f (bY 2) fX).2=fY 3:=by rw[h2,h3,← hf46];rfl
 have q1:(jW (wY bb) (hY bb) f (bY 0) x46).2.length=1:=by rw[h2,h3];exact o1
 have q2:(jW (wY bb) (hY bb) f (bY 1) fX).2.length=0:=by rw[h2,h3];exact o2
 have hLp1:=aM4 (W:=wY bb) (H:=hY bb) (f:=f) hLp hI.ok hI.near (x:=x46) (aFr od od od od od od);rw[g1,e1]at hLp1;refine fS (S:=.blk lb 113 (bX g (lp0 3))::nB g (bY 0) a0 [] (none,0,[]) (none,0,[]) T) rfl rfl aD.au rfl (fun w hw ho=>aM0 bb f lb g 0 (lp0 3) (bY 0) a0 [] _ _ T x46 0 w ho hI hLp (aFr od od od od od od) od od) ?_;rintro v S' ⟨So,a1,d1,p1,r1,T1,⟨A5,c5,rfl,rfl⟩,rfl,hI1⟩;rw[q1];rw[g1,e1];rw[e1]at hI1;generalize (jW (wY bb) (hY bb) f (bY 0) x46).2=out1 at *;refine xC ?_;simp only[List.cons_append,List.nil_append];refine aB;have hLp2:=aM4 (W:=wY bb) (H:=hY bb) (f:=f) hLp1 hI1.ok hI1.near (x:=fX) (aFr od od od od od od);rw[g2,e2]at hLp2;refine fS (S:=.blk lb 113 (bX g (fY 1))::nB g (bY 1) a1 d1 p1 r1 T1) rfl rfl aD.au rfl (fun w hw ho=>aM0 bb f lb g 1 (fY 1) (bY 1) a1 d1 p1 r1 T1 fX 6000000 w ho hI1 hLp1 (aFr od od od od od od) od od) ?_;rintro v S' ⟨So,a2,d2,p2,r2,T2,⟨A6,c6,rfl,rfl⟩,rfl,hI2⟩;rw[q2];rw[g2,e2];rw[e2]at hI2;generalize (jW (wY bb) (hY bb) f (bY 1) fX).2=out2 at *;refine xC ?_;simp only[List.cons_append,List.nil_append];refine aB;have hLp3:=aM4 (W:=wY bb) (H:=hY bb) (f:=f) hLp2 hI2.ok hI2.near (x:=fX) (aFr od od od od od od);rw[g3,e3]at hLp3;refine fS (S:=.blk lb 113 (bX g (fY 2))::nB g (bY 2) a2 d2 p2 r2 T2) rfl rfl aD.au rfl (fun w hw ho=>aM0 bb f lb g 2 (fY 2) (bY 2) a2 d2 p2 r2 T2 fX 12000000 w ho hI2 hLp2 (aFr od od od od od od) od od) ?_;rintro v S' ⟨So,a3,d3,p3,r3,T3,⟨A7,c7,rfl,rfl⟩,rfl,hI3⟩;rw[g3,e3];rw[e3]at hI3;generalize (jW (wY bb) (hY bb) f (bY 2) fX).2=out3 at *;refine xC ?_;simp only[List.cons_append,List.nil_append];obtain⟨m1,m2,m3⟩:=bEi;obtain⟨u1,u2,u3,u4,u5,u6⟩:=bEf;have hNL:=hI3.ok.nvl;clear e1 e2 e3 g1 g2 g3 q1 q2 o1 o2;generalize bY 3=s9 at *;generalize fY 3=L9 at *;obtain⟨dx,dy,sure,known,loss,fixes,since⟩:=L9;dsimp only at u1 u2 u3 u4 u5 u6;subst u1 u2 u3 u4 u5 u6;have bx:s9.x+0=600:=oo;have b_y:s9.y+0 = -7:=oo;have hbx:aP .i64 (s9.x+0):=by rw[bx];decide
 have hby:aP .i64 (s9.y+0):=by rw[b_y];decide
 refine aB;refine lf rfl rfl rfl (S:=[.blk lb 113 (bX g ⟨0,0,3,false,loss,0,1⟩)]) (fun w hw ho=>bDx lb g ⟨0,0,3,false,loss,0,1⟩ w ho) ?_;rintro v S' ⟨rfl,rfl⟩;refine aB;refine lf rfl rfl rfl (S:=[.blk lb 113 (bX g ⟨0,0,3,false,loss,0,1⟩)]) (fun w hw ho=>aQ0 lb g ⟨0,0,3,false,loss,0,1⟩ w ho) ?_;rintro v S' ⟨rfl,rfl⟩;refine aB;refine lf rfl rfl rfl (S:=[.blk lb 113 (bX g ⟨0,0,3,false,loss,0,1⟩),.blk g 173 (aI s9 a3)]) (fun w hw ho=>aQ6 lb g ⟨0,0,3,false,loss,0,1⟩ s9 a3 603 (-3) w ho hNL hbx hby) ?_;rintro v S' ⟨rfl,rfl⟩;dsimp only;rw[bx,b_y,bEg];refine aB;refine lf rfl rfl rfl (S:=[.blk lb 113 (bX g ⟨0,0,3,false,loss,0,1⟩),.blk g 173 (aI s9 a3)]) (fun w hw ho=>aQ6 lb g ⟨0,0,3,false,loss,0,1⟩ s9 a3 2199023255552 0 w ho hNL hbx hby) ?_;rintro v S' ⟨rfl,rfl⟩;dsimp only;rw[bx,b_y,bEh];have i1:∀w0 W H t u a b,MS prog w0 W H (.binOp .eql t a b u) [.int .i64 s9.mode,.int .i64 1] (.bool true) True:=fun _ _ _ _ _ _ _=>bM inferInstance trivial (congrArg Value.bool (by simp[m1]));refine aB;refine lf rfl rfl rfl (S:=[.blk lb 113 (bX g ⟨0,0,3,false,loss,0,1⟩),.blk g 173 (aI s9 a3)]) (fun w hw ho=>aIs lb g ⟨0,0,3,false,loss,0,1⟩ s9 a3 w ho hNL hbx hby) ?_;rintro v S' ⟨rfl,rfl⟩;dsimp only;rw[bx,b_y];refine aB;refine lf rfl rfl rfl (S:=[.blk lb 113 (bX g ⟨0,0,3,false,loss,0,1⟩),.blk g 173 (aI s9 a3)]) (fun w hw ho=>bDy lb g ⟨0,0,3,false,loss,0,1⟩ s9 a3 600 0 5 w ho hNL hbx hby (by show (0:Int)≤3∧(3:Int)≤1099511627776;decide)) ?_;rintro v S' ⟨rfl,rfl⟩;rw[show aQe ⟨0,0,3,false,loss,0,1⟩ (s9.x+(⟨0,0,3,false,loss,0,1⟩:eE).dx) (s9.y+(⟨0,0,3,false,loss,0,1⟩:eE).dy) 600 0 5=false from decide_eq_false (fun h=>by have:=h.2.1;cases this)];refine aB;refine lf rfl rfl rfl (S:=[.blk g 173 (aI s9 a3)]) (fun w hw ho=>aGp g s9 a3 w ho hNL) ?_;rintro v S' ⟨rfl,rfl⟩;refine aB;exact aK (S':=[]) rfl rfl (.nil _) ⟨rfl,rfl⟩
theorem bDv(a:Int)(ha:aP .u8 a)(b:Int)(hb:aP .u8 b)(A:Option Addr)(c:Nat)(z:List Int){w:World}(hr:bF w (aV []) A z.length c 1 (aC .i16 z))(hz:∀x∈z,aP .i16 x)(cf:dJ)(x:Int)(hx:aP .i64 x)(y:Int)(hy:aP .i64 y)(loss:Int)(hlo:aP .u16 loss)(Al:Option Addr)(cl:Nat)(l:List jH)(hrl:bF w (aV []) Al l.length cl 6 (aR dR l))(hl:∀p∈l,p.ok):
  aF prog 8 [.int .u8 a,.int .u8 b,.slice A z.length c,.agg (qP cf).toArray,.agg #[.int .i64 x,.int .i64 y],.int .u16 loss,.slice Al l.length cl] [] w (fun v _=>v=.bool true):=by
 have hlo1:0≤loss∧loss≤65535:=hlo;have iW:CV prog 30 [] (.bool true) True:=⟨fun _ w=>bEj w⟩;have iLt:=light_cv A z.length c Al l.length cl;have iCk:=navcheck_cv cf;refine aJ func8 rfl ntmps8 rfl ⟨aE,.nil⟩ (fun n=>?_);simp only[aG];by_cases hL:1500<z.length∨60<l.length
 ·rw[if_pos hL]at iLt;refine aB;exact aK rfl rfl (.nil _) rfl
 rw[if_neg hL]at iLt;by_cases hC:oR cf=0
 rotate_left
 ·have iN:∀w0 W H t u a b,MS prog w0 W H (.binOp .neq t a b u) [.int .i64 (oR cf),.int .i64 0] (.bool true) True:=fun _ _ _ _ _ _ _=>bM inferInstance trivial (congrArg Value.bool (by simpa using hC));refine aB;exact aK rfl rfl (.nil _) rfl
 rw[hC]at iCk;refine aB;refine lf rfl rfl rfl (S:=[]) (fun w hw ho=>bDz a b ha hb A c z cf hC x y ⟨hx,hy⟩ loss hlo1 w ⟨hr.h.go hw (aD.nil _)⟩ hz oo) ?_;rintro v S' ⟨lb,g,g2,s0,a0,b0,T,U,W,H,f,rfl,rfl,hI,-,-⟩;have hm0:=bD6 (loss:=loss) oo s0;generalize fR W H 30 0 0 f=ys at *;refine kF (H':=.blk lb 113 (bX g (lp0 loss))::nB g s0 a0 [] (none,0,[]) (none,0,[]) T) (by simp only[List.cons_append,List.nil_append,List.append_assoc];exact aA.au) ?_;refine aB;refine bT (X:=Nat×aL×eE×bR×List jJ×gJ×gJ×List HE) (fun q=>q.1≤l.length∧aE0 q.2.2.1 q.2.1 q.1∧q.2.2.1.loss=loss∧uZ ys f q.1 (6000000*(q.1:Int)) q.2.1 q.2.2.2.1 q.2.2.2.2.1 q.2.2.2.2.2.1 q.2.2.2.2.2.2.1 q.2.2.2.2.2.2.2)
  (fun q=>[(6,.slice Al l.length cl),(15,.pointer (some ⟨lb,0,none⟩)),(18,.int .i64 q.1)])
  (fun q=>.blk lb 113 (bX g q.2.2.1)::nB g q.2.1 q.2.2.2.1 q.2.2.2.2.1 q.2.2.2.2.2.1 q.2.2.2.2.2.2.1 q.2.2.2.2.2.2.2) (fun q=>l.length-q.1) (0,s0,lp0 loss,a0,[],(none,0,[]),(none,0,[]),T) ⟨Nat.zero_le _,hm0,rfl,hI⟩ ⟨rfl,rfl,rfl,trivial⟩ aA.au ?_
 clear hm0 hI;rintro⟨i,s,L,a0,ds,x1,x2,T⟩ ⟨hi,hLp,hLl,hI⟩;dsimp only at hi hLp hLl hI ⊢;rcases Nat.lt_or_ge i l.length with h|h
 rotate_left
 ·refine aB;exact aK (S':=[]) rfl rfl (.nil _) rfl
 obtain⟨bL,oL,rfl,hLr⟩:=hrl.at_ (by omega:0<l.length);have hfok:(l.getD i default).ok:=by rw[List.getD_eq_getElem?_getD,List.getElem?_eq_getElem h];exact hl _ (List.getElem_mem h)
 have hi60:i<61:=oo;obtain⟨-,htl⟩:=bBs (W:=wY ys) (H:=hY ys) (f:=f) s (l.getD i default);have hxy:=bD8 (W:=wY ys) (H:=hY ys) (f:=f) hI.near hfok;have hw2:=bBq (W:=wY ys) (H:=hY ys) (f:=f) hI.near hI.ok.mode (l.getD i default);have hLk:=fun w ho=>aM0 ys f lb g i L s a0 ds x1 x2 T (l.getD i default) (6000000*(i:Int)) w ho hI hLp hfok oo oo;have hL2:=aM4 (W:=wY ys) (H:=hY ys) (f:=f) hLp hI.ok hI.near hfok;generalize jW (wY ys) (hY ys) f s (l.getD i default)=tr at *;obtain⟨s2,out⟩:=tr;dsimp only at htl hxy hw2 hLk hL2;generalize eW s s2 (l.getD i default)=mv at *;have hoS:=htl.outS;have hout3:out.length=2→∃c2,out.getD 1 default=c2∧s2.mode=2∧qB s2=0∧rU s2=some c2:=by
  rcases htl with rfl|rfl | ⟨c2,rfl,q1,q2,q3⟩
  ·intro h;cases h
  ·intro h;cases h
  ·exact fun _=>⟨c2,rfl,q1,q2,q3⟩
 have hNo:=fun h=>bE9 (L:=L) (m:=mv) (out:=out) h;have hYes:=fun h=>bEa (L:=L) (m:=mv) (out:=out) h;generalize eH L mv out=L2 at *;have hL2l:L2.loss=loss:=by
  by_cases hg:out.length=2
  ·rw[(hYes hg).2.1,hLl]
  ·rw[(hNo hg).2.1,hLl]
 have hfx:=hLp.fixes;have hB:=aUu hLp hI.ok oo;have hNL:=hI.ok.nvl;have hxx : -9223372036854775808≤s.x∧s.x≤9223372036854775807:=hI.ok.xy.1;have hyy : -9223372036854775808≤s.y∧s.y≤9223372036854775807:=hI.ok.xy.2;have iNe:∀w0 W H t u a b (kk:IntKind) (v:Int),MS prog w0 W H (.binOp .neq t a b u) [.int kk v,.int kk v] (.bool false) True:=fun _ _ _ _ _ _ _ _ _=>bM inferInstance trivial (congrArg Value.bool aE);have iNl:∀w0 W H t u a b (kk:IntKind) (v:Int),LV prog w0 W H (.binOp .neq t a b u) [.int kk v,.int kk v] (.bool false) True:=fun _ _ _ _ _ _ _ _ _=>gO inferInstance trivial (congrArg Value.bool aE);refine aB;refine mM (X:=Nat×Nat) (fun _=>True) (fun q=>[(6,.slice (some ⟨bL,oL,none⟩) l.length cl),(15,.pointer (some ⟨lb,0,none⟩)),(18,.int .i64 i),(19,.pointer (some ⟨q.1,0,none⟩)),(20,.pointer (some ⟨q.2,0,none⟩))])
  (fun q=>.blk q.1 44 [.int .i64 (s.x+L.dx),.int .i64 (s.y+L.dy)]::.blk q.2 44 [.int .i64 s.x,.int .i64 s.y]::.blk lb 113 (bX g L)::nB g s a0 ds x1 x2 T) ?_ ?_
 ·refine kC (0::1::2::3::4::5::6::7::8::9::10::[]) ?_;intro _;refine gP;all_goals refine lk rfl rfl rfl (S:=[.blk lb 113 (bX g L),.blk g 173 (aI s a0)]) (fun w hw ho=>aIs lb g L s a0 w ho hNL hB.1 hB.2.1) ?_
  all_goals refine gP
  all_goals refine lk rfl rfl rfl (S:=[.blk g 173 (aI s a0)]) (fun w hw ho=>aV7 g s a0 w ho hNL) ?_
  all_goals refine gP
  all_goals exact aN (_,_) trivial trivial ⟨rfl,rfl,rfl,rfl,rfl,trivial⟩ aA.au
 rintro⟨b19,b20⟩ -;dsimp only;refine aB;refine lf rfl rfl rfl (S:=[.blk lb 113 (bX g L)]) (fun w hw ho=>aQ0 lb g L w ho) ?_;rintro v S' ⟨rfl,rfl⟩;refine aB;refine fS (S:=.blk lb 113 (bX g L)::nB g s a0 ds x1 x2 T) rfl rfl aD.au rfl (fun w hw ho=>hLk w ho) ?_;rintro v S' ⟨So,a2,ds2,y1,y2,T2,⟨A5,c5,rfl,rfl⟩,rfl,hI2⟩;dsimp only at hI2 ⊢;refine xC ?_;simp only[List.cons_append,List.nil_append];have hI2:uZ ys f (i+1) (6000000*((i+1:Nat):Int)) s2 a2 ds2 y1 y2 T2:=hI2.up (Nat.le_refl _) oo;have hB2:=aUu hL2 hI2.ok oo;have hNL2:=hI2.ok.nvl;have hBe:=fun w ho=>aIs lb g L2 s2 a2 w ho hNL2 hB2.1 hB2.2.1;have hIe:=fun w ho=>aV7 g s2 a2 w ho hNL2;have hx2 : -9223372036854775808≤s2.x∧s2.x≤9223372036854775807:=hI2.ok.xy.1;have hy2 : -9223372036854775808≤s2.y∧s2.y≤9223372036854775807:=hI2.ok.xy.2;obtain⟨xd,yd,-⟩:=hxy;refine aB;refine lf rfl rfl rfl (S:=[.blk lb 113 (bX g L2)]) (fun w hw ho=>aQ0 lb g L2 w ho) ?_;rintro v S' ⟨rfl,rfl⟩;by_cases hg:out.length=2
 rotate_left
 ·obtain⟨n1,-,-,n4,n5⟩:=hNo hg;rw[n4,n5]at hBe;have iEq:∀w0 W H t u a b,MS prog w0 W H (.binOp .eql t a b u) [.int .i64 L2.fixes,.int .i64 L.fixes] (.bool true) True:=fun _ _ _ _ _ _ _=>bM inferInstance trivial (congrArg Value.bool (by simp[n1]));have iSx:∀w0 W H t u a b,MS prog w0 W H (.binOp .sub t a b u) [.int .i64 (s2.x+L.dx),.int .i64 (s.x+L.dx)] (.int .i64 (s2.x-s.x)) True:=fun _ _ _ _ _ _ _=>bM inferInstance (by show (-9223372036854775808:Int)≤_∧_≤(9223372036854775807:Int);omega) (congrArg (Value.int .i64) oo);have iSy:∀w0 W H t u a b,MS prog w0 W H (.binOp .sub t a b u) [.int .i64 (s2.y+L.dy),.int .i64 (s.y+L.dy)] (.int .i64 (s2.y-s.y)) True:=fun _ _ _ _ _ _ _=>bM inferInstance (by show (-9223372036854775808:Int)≤_∧_≤(9223372036854775807:Int);omega) (congrArg (Value.int .i64) oo);have iTx:∀w0 W H t u a b,LV prog w0 W H (.binOp .sub t a b u) [.int .i64 (s2.x+L.dx),.int .i64 (s.x+L.dx)] (.int .i64 (s2.x-s.x)) True:=fun _ _ _ _ _ _ _=>gO inferInstance (by show (-9223372036854775808:Int)≤_∧_≤(9223372036854775807:Int);omega) (congrArg (Value.int .i64) oo);have iTy:∀w0 W H t u a b,LV prog w0 W H (.binOp .sub t a b u) [.int .i64 (s2.y+L.dy),.int .i64 (s.y+L.dy)] (.int .i64 (s2.y-s.y)) True:=fun _ _ _ _ _ _ _=>gO inferInstance (by show (-9223372036854775808:Int)≤_∧_≤(9223372036854775807:Int);omega) (congrArg (Value.int .i64) oo);refine aB;refine kC (0::1::2::3::4::5::6::7::8::9::10::11::12::13::14::15::16::17::18::19::20::21::22::23::24::25::26::27::28::29::30::31::32::33::[]) ?_;intro _;refine gP;all_goals refine lk rfl rfl rfl (S:=[.blk lb 113 (bX g L2),.blk g 173 (aI s2 a2)]) (fun w hw ho=>hBe w ho) ?_
  all_goals refine gP
  all_goals refine lk rfl rfl rfl (S:=[.blk g 173 (aI s2 a2)]) (fun w hw ho=>hIe w ho) ?_
  all_goals refine gP
  all_goals refine lk rfl rfl rfl (S:=[.blk lb 113 (bX g L2),.blk g 173 (aI s2 a2)]) (fun w hw ho=>hBe w ho) ?_
  all_goals refine gP
  all_goals refine lk rfl rfl rfl (S:=[.blk g 173 (aI s2 a2)]) (fun w hw ho=>hIe w ho) ?_
  all_goals refine gP
  all_goals exact aN (i+1,s2,L2,a2,ds2,y1,y2,T2) ⟨h,hL2,hL2l,hI2⟩ (by show l.length-(i+1)<l.length-i;omega) ⟨rfl,rfl,by simp[aH],trivial⟩ aA.au
 obtain⟨n1,-,-,n4,n5,n6⟩:=hYes hg;obtain⟨c2,hc2,hm2,hf2,hco⟩:=hout3 hg;obtain⟨-,k1,k2,-,-⟩:=bD5 hco;rw[hc2]at n5 n6;rw[n5,n6,k1,k2]at hBe;have hho:fM s2.mode=true:=by rw[hm2];rfl
 obtain⟨hgk,hgf⟩:=hI2.ok.g hho;have hG:=fun w ho=>aL4 g s2 a2 w ho hNL2;rw[hho,if_pos rfl]at hG;have hFl:=fun w ho hr=>aKs g (i+1) s2 a2 w ho hI2.ok oo hr;rw[hf2]at hFl;have hMo:=fun w ho=>aGp g s2 a2 w ho hNL2;rw[hm2]at hMo;unfold nQ at hgf;have iEq:∀w0 W H t u a b,MS prog w0 W H (.binOp .eql t a b u) [.int .i64 L2.fixes,.int .i64 L.fixes] (.bool false) True:=fun _ _ _ _ _ _ _=>bM inferInstance trivial (congrArg Value.bool (by simp[n1];omega));have iNf:∀w0 W H t u a b,MS prog w0 W H (.binOp .neq t a b u) [.int .i64 L2.fixes,.int .i64 (L.fixes+1)] (.bool false) True:=fun _ _ _ _ _ _ _=>bM inferInstance trivial (congrArg Value.bool (by simp[n1]));have iNs:∀w0 W H t u a b,MS prog w0 W H (.binOp .neq t a b u) [.int .i64 L2.since,.int .i64 0] (.bool false) True:=fun _ _ _ _ _ _ _=>bM inferInstance trivial (congrArg Value.bool (by simp[n4]));refine aB;refine lf rfl rfl rfl (S:=[.blk g 173 (aI s2 a2)]) (fun w hw ho=>hG w ho) ?_;rintro v S' ⟨rfl,rfl⟩;refine aB;refine bQ rfl rfl rfl (fun w hw=>aL0 s2.g a2.Ag a2.cg w (gD.ro (y:=(a2.Ag,a2.cg,s2.g.p)) hI2.g hw (aD.nil _) (by refine bV) (by refine bV)) hgk.1 hgk.2.1 hgk.2.2.1 hgk.2.2.2.1 hgk.2.2.2.2) ?_;refine aB;refine lf rfl rfl rfl (S:=[.blk g 173 (aI s2 a2)]) (fun w hw ho=>hMo w ho) ?_;rintro v S' ⟨rfl,rfl⟩;refine aB;refine lf rfl rfl rfl (S:=[.blk g 173 (aI s2 a2)]) (fun w hw ho=>hFl w ho (gD.ro (y:=(a2.Ag,a2.cg,s2.g.p)) hI2.g hw aD.au (by refine bV) (by refine bV))) ?_;rintro v S' ⟨rfl,rfl⟩;refine aB;refine bQ rfl rfl rfl (fun w hw=>aMa s2.g a2.Ag a2.cg w (gD.ro (y:=(a2.Ag,a2.cg,s2.g.p)) hI2.g hw (aD.nil _) (by refine bV) (by refine bV)) hgk oo oo) ?_;refine aB;refine kC (0::1::2::3::4::5::6::7::[]) ?_;intro _;refine gP;all_goals refine lk rfl rfl rfl (S:=[.blk lb 113 (bX g L2),.blk g 173 (aI s2 a2)]) (fun w hw ho=>hBe w ho) ?_
 all_goals refine gP
 all_goals exact aN (i+1,s2,L2,a2,ds2,y1,y2,T2) ⟨h,hL2,hL2l,hI2⟩ (by show l.length-(i+1)<l.length-i;omega) ⟨rfl,rfl,by simp[aH],trivial⟩ aA.au
end Go.Proofs.YtpmkboockihdbaaGreat
namespace Go.Proofs.YtpmkboockihdbaaGreat
open Go.RowKit _root_.Go.Proofs.Tryz
theorem bDj:aA6 prog 50 [.i64,.i64,.i64,.i64,.i64,.i64]:=aEu [[.i64],[.i64],[.i64],[.i64],[.i64],[.i64]] underlying50 ⟨_,_,rfl,rfl,aA8,_,_,rfl,rfl,aA8,_,_,rfl,rfl,aDj,_,_,rfl,rfl,aDj,_,_,rfl,rfl,aDj,_,_,rfl,rfl,aDj,rfl⟩ (by kernel_rfl)
theorem bDk:aA6 prog 25 [.i64,.i64,.i64]:=aEu [[.i64],[.i64],[.i64]] underlying25 ⟨_,_,rfl,rfl,aA8,_,_,rfl,rfl,aA8,_,_,rfl,rfl,aA8,rfl⟩ (by kernel_rfl)
theorem bDh:aA6 prog 52 [.u32,.i64,.i64,.i64,.i64,.i64,.i64,.i64,.i64,.i64,.i64,.i64,.i64,.i64,.i64,.i64,.i64,.i64,.i64,.i64,.i64,.i64,.i64]:=aEu [[.u32,.i64,.i64,.i64],[.i64,.i64,.i64,.i64,.i64,.i64],[.i64,.i64,.i64],[.i64],[.i64],[.i64],[.i64],[.i64],[.i64],[.i64],[.i64],[.i64],[.i64]] underlying52 ⟨_,_,rfl,rfl,bDl,_,_,rfl,rfl,bDj,_,_,rfl,rfl,bDk,_,_,rfl,rfl,aDj,_,_,rfl,rfl,aA8,_,_,rfl,rfl,aA8,_,_,rfl,rfl,aDj,_,_,rfl,rfl,aDj,_,_,rfl,rfl,aDj,_,_,rfl,rfl,aA8,_,_,rfl,rfl,aA8,_,_,rfl,rfl,aA8,_,_,rfl,rfl,aA8,rfl⟩ (by kernel_rfl)
theorem bEc:∀cs,uW [.u32,.i64,.i64,.i64,.i64,.i64,.i64,.i64,.i64,.i64,.i64,.i64,.i64,.i64,.i64,.i64,.i64,.i64,.i64,.i64,.i64,.i64,.i64] cs→∃a:dJ,qP a=cs:=by rintro _ ⟨x0,_,rfl,-,x1,_,rfl,-,x2,_,rfl,-,x3,_,rfl,-,x4,_,rfl,-,x5,_,rfl,-,x6,_,rfl,-,x7,_,rfl,-,x8,_,rfl,-,x9,_,rfl,-,x10,_,rfl,-,x11,_,rfl,-,x12,_,rfl,-,x13,_,rfl,-,x14,_,rfl,-,x15,_,rfl,-,x16,_,rfl,-,x17,_,rfl,-,x18,_,rfl,-,x19,_,rfl,-,x20,_,rfl,-,x21,_,rfl,-,x22,_,rfl,-,rfl⟩;exact⟨⟨x0,x1,x2,x3,x4,x5,x6,x7,x8,x9,⟨x10,x11,x12⟩,x13,x14,x15,x16,x17,x18,x19,x20,x21,x22⟩,rfl⟩
