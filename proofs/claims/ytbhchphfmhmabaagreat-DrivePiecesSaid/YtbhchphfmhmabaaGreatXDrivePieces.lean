import Derived.Test.YtbhchphfmhmabaaGreatP53
set_option maxHeartbeats 512000000
set_option maxRecDepth 4000
set_option linter.unusedVariables false
set_option linter.unusedSimpArgs false
namespace Go.Proofs.YtbhchphfmhmabaaGreat
open Go.RowKit
theorem aF.calls{P:Program}{f:FuncId}{args:List Value}{S:List HE}{w:World}{Rl:Value→List HE→Prop}(h:aF P f args S w Rl):Calls P f args.toArray w (nZ S w Rl):=callsIn_wide.1 (h 0)
section
variable {F:Fence} {n:Nat} {P:Program} {N:Nat} {ds:List Deferred} {w0:World} {W:Nat→Prop} {σ:List (Nat×Value)} {H R:List HE} {Q:Exit→Act→World→Prop} {K:Act→World→Prop}
variable {d:Nat} {ty:TypeId} {pos:String} {aft:Array Edge} {gd:Option (Nat×Bool)} {o:Oper}
end
section
variable (P:Program) (w0:World) (W:Nat→Prop) (H:List HE)
end
section
variable {P:Program} {w0:World} {W:Nat→Prop} {H:List HE}
instance (t u:TypeId)(x y:Operand)(k:IntKind)(a b:Int):MW P w0 W H (.binOp .rem t x y u) [.int k a,.int k b] (.int k (a.tmod b)) (b≠0):=⟨fun hc _ _ _ _ _ _ _ _ _ _ _ _ _ h1 h2 h3=>let ⟨p,q⟩:=dP h1;aZa p q hc h2 h3⟩
instance (priority:=50) (t u:TypeId)(x y:Operand)(k k':IntKind)(a:Int)(b:Nat):MS P w0 W H (.binOp .shr t x y u) [.int k a,.int k' (b:Int)] (.int k (a/2^b)) (vO k b):=⟨fun hc _ _ _ _ _ _ _ _ _ _ _ _ _ h1 h2 h3=>let ⟨p,q⟩:=dP h1;aGz p q oo h2 (by rw[Int.toNat_natCast,Nat.min_eq_left (xX hc),Int.fdiv_eq_ediv_of_nonneg _ (Int.le_of_lt (Int.pow_pos od))];exact h3)⟩
end
section
variable {F:Fence} {n:Nat} {P:Program} {Q:Exit→Act→World→Prop} {k:Act→World→Prop}
end
section
variable {F:Fence} {n:Nat} {P:Program} {N:Nat} {ds:List Deferred} {w0:World} {W:Nat→Prop} {σ:List (Nat×Value)} {H:List HE} {Q:Exit→Act→World→Prop} {k k':Act→World→Prop}
variable {ops:Array Oper} {rest:List Oper} {d:Nat} {op:Op} {ty:TypeId} {pos:String} {aft:Array Edge} {gd:Option (Nat×Bool)} {vs:List Value} {v:Value} {c:Prop} {H':List HE}
end
instance (priority:=50) (w0:World)(W:Nat→Prop)(b off:Nat)(xs:List Value)(v:Value)(c:Prop)[h:aBi w0 W b off xs][he:rI xs 0 v c]:aE6 w0 W b off v c:=⟨fun hc=>⟨h.h.1,h.h.2.1,h.h.2.2 0 v (he.h hc)⟩⟩
section
variable {F:Fence} {n:Nat} {P:Program} {N:Nat} {ds:List Deferred} {w0:World} {W:Nat→Prop} {σ:List (Nat×Value)} {H:List HE} {Q:Exit→Act→World→Prop} {k k':Act→World→Prop}
variable {ops:Array Oper} {rest:List Oper} {d:Nat} {op:Op} {ty:TypeId} {pos:String} {aft:Array Edge} {gd:Option (Nat×Bool)} {vs:List Value} {v:Value} {c:Prop} {H':List HE}
end
end Go.Proofs.YtbhchphfmhmabaaGreat
namespace Go.Proofs.YtbhchphfmhmabaaGreat
open Go _root_.Go.Proofs.Tryz
instance:bF prog 103 8 64 (.agg #[Value.int IntKind.i64 0,Value.int IntKind.i64 0,Value.int IntKind.i64 0,Value.int IntKind.i64 0,Value.int IntKind.i64 0,Value.int IntKind.i64 0,Value.int IntKind.i64 0,Value.int IntKind.i64 0]):=dI Tryz.t103
instance:bF prog 105 13 120 (.agg #[.pointer none,.slice none 0 0,Value.int IntKind.i64 0,Value.int IntKind.i64 0,Value.int IntKind.i64 0,Value.int IntKind.i64 0,Value.int IntKind.i64 0,Value.int IntKind.i64 0,Value.int IntKind.i64 0,Value.int IntKind.i64 0,Value.int IntKind.i64 0,Value.int IntKind.i64 0,Value.int IntKind.i64 0]):=dI Tryz.t105
instance:bF prog 166 3 12 (.agg #[Value.int IntKind.i32 0,Value.int IntKind.i32 0,Value.int IntKind.i32 0]):=dI Tryz.t166
instance:bF prog 238 1 8 (.pointer none):=dI Tryz.t238
instance:bF prog 239 3 24 (.agg #[.pointer none,.pointer none,.pointer none]):=dI Tryz.t239
instance:aN prog 46 (.pointer 105):=⟨underlying46⟩
instance:aN prog 103 (.array 8 3):=⟨underlying103⟩
instance:aN prog 166 (.array 3 21):=⟨underlying166⟩
instance:aN prog 238 (.pointer 21):=⟨underlying238⟩
instance:aN prog 239 (.array 3 238):=⟨underlying239⟩
instance:Pl prog 25 [(0,1),(1,1),(2,1),(3,1)]:=⟨_,underlying25,fun w=>by kernel_rfl⟩
instance:Pl prog 27 [(0,1),(1,1),(2,1),(3,1),(4,1),(5,1)]:=⟨_,underlying27,fun w=>by kernel_rfl⟩
instance:Pl prog 29 [(0,1),(1,1),(2,1)]:=⟨_,underlying29,fun w=>by kernel_rfl⟩
instance:Pl prog 31 [(0,4),(4,6),(10,3),(13,1),(14,1),(15,1),(16,1),(17,1),(18,1),(19,1),(20,1),(21,1),(22,1)]:=⟨_,underlying31,fun w=>by kernel_rfl⟩
instance:Fa prog 59 1 1:=aS Tryz.t45 underlying59 rfl
instance:Fa prog 59 5 5:=aS Tryz.t21 underlying59 rfl
instance:Fa prog 102 0 0:=aS Tryz.t34 underlying102 rfl
instance:Fa prog 102 1 1:=aS Tryz.t3 underlying102 rfl
instance:Pl prog 105 [(0,1),(1,2),(3,1),(4,1),(5,8)]:=⟨_,underlying105,fun w=>by kernel_rfl⟩
instance:Fa prog 105 0 0:=aS Tryz.t62 underlying105 rfl
instance:Fa prog 105 1 1:=aS Tryz.t102 underlying105 rfl
instance:Fa prog 105 2 3:=aS Tryz.t3 underlying105 rfl
instance:Fa prog 105 3 4:=aS Tryz.t3 underlying105 rfl
instance:Fa prog 105 4 5:=aS Tryz.t103 underlying105 rfl
instance:Cl prog 10:=⟨call10⟩
instance:Cl prog 12:=⟨call12⟩
instance:Cl prog 13:=⟨call13⟩
instance:Cl prog 14:=⟨call14⟩
instance:Cl prog 15:=⟨call15⟩
instance:Cl prog 16:=⟨call16⟩
instance:Cl prog 17:=⟨call17⟩
instance:Cl prog 18:=⟨call18⟩
instance:Cl prog 19:=⟨call19⟩
instance:Cl prog 21:=⟨call21⟩
instance:Cl prog 22:=⟨call22⟩
instance:Cl prog 23:=⟨call23⟩
instance:Cl prog 24:=⟨call24⟩
instance:Cl prog 25:=⟨call25⟩
instance:Cl prog 28:=⟨call28⟩
instance:Cl prog 29:=⟨call29⟩
instance:Cl prog 45:=⟨call45⟩
instance:Cl prog 49:=⟨call49⟩
instance:Cl prog 50:=⟨call50⟩
instance:Cl prog 51:=⟨call51⟩
instance:Cl prog 54:=⟨call54⟩
instance:Cl prog 55:=⟨call55⟩
instance:Cl prog 56:=⟨call56⟩
instance:Cl prog 57:=⟨call57⟩
instance:Cl prog 68:=⟨call68⟩
instance:Cl prog 69:=⟨call69⟩
instance:Cl prog 85:=⟨call85⟩
instance:Cl prog 88:=⟨call88⟩
instance:Cl prog 89:=⟨call89⟩
instance:Cl prog 90:=⟨call90⟩
instance:Cl prog 91:=⟨call91⟩
instance:Cl prog 92:=⟨call92⟩
instance:Cl prog 100:=⟨call100⟩
instance:Cl prog 128:=⟨call128⟩
instance:Cl prog 130:=⟨call130⟩
instance:Cl prog 137:=⟨call137⟩
instance:Cl prog 139:=⟨call139⟩
instance:bZ Tryz.f49 [Go.ResultVar.cell 8 31]:=⟨rfl⟩
instance:bZ Tryz.f51 [Go.ResultVar.cell 4 59,Go.ResultVar.tmp 5,Go.ResultVar.tmp 6]:=⟨rfl⟩
instance:bZ Tryz.f100 [Go.ResultVar.cell 2 59,Go.ResultVar.tmp 3,Go.ResultVar.tmp 4]:=⟨rfl⟩
instance:bZ Tryz.f128 [Go.ResultVar.cell 0 103]:=⟨rfl⟩
end Go.Proofs.YtbhchphfmhmabaaGreat
namespace Go.Proofs.YtbhchphfmhmabaaGreat
open Go.RowKit _root_.Go.Proofs.Tryz
theorem bEt{xs ys:List Int}(hx:dL xs)(hy:dL ys):((strOfNums xs).toList==(strOfNums ys).toList)=(xs==ys):=by
 have key:∀xs ys:List Int,dL xs→dL ys→(xs.map fun n=>UInt8.ofNat n.toNat)=(ys.map fun n=>UInt8.ofNat n.toNat)→xs=ys:=by
  intro xs
  induction xs with
  | nil=>intro ys _ _ h;cases ys with
   | nil=>rfl
   | cons y r=>simp at h
  | cons x r ih =>
   intro ys hx hy h;cases ys with
   | nil=>simp at h
   | cons y s =>
    simp only[List.map_cons,List.cons.injEq]at h;have h1:=hx x aE;have h2:=hy y aE;have h3:=congrArg UInt8.toNat h.1;simp only[UInt8.toNat_ofNat']at h3;rw[ih s (fun z hz=>hx z (by simp[hz])) (fun z hz=>hy z (by simp[hz])) h.2,show x=y from by omega]
 have e:∀xs,(strOfNums xs).toList=xs.map fun n=>UInt8.ofNat n.toNat:=fun xs=>by rw[← strOfNums_data];exact ByteArray.toList_eq _
 rw[e,e,Bool.eq_iff_iff];simp only[beq_iff_eq];exact⟨key xs ys hx hy,fun h=>by rw[h]⟩
section
variable {P:Program} {w0:World} {W:Nat→Prop} {H:List HE}
instance (priority:=50) (s t e:TypeId)(x:Operand)(A:Option Addr)(m c:Nat)(xs:List Int)[aN P s (.slice e)][aN P e (.int .u8)][aN P t .string][hs:vR w0 W H e 1 (.slice A m c) m (aD .u8 xs)]:MS P w0 W H (.convert s t x) [.slice A m c] (.string (strOfNums xs)) True :=
 ⟨fun _ _ _ _ _ _ _ _ _ _ _ _ _ _ h1 h2 h3=>dW aE rfl h2 (fun a w ha hw=>by
  obtain⟨A',c',e1,-,-,e2,e3⟩:=hs.h w hw;injection e1 with q1 _ q3;subst q1 q3;have hlen:xs.length=m:=by simpa using e2
  have hx:=ha.eval (kP rfl h1);have hrun:(convert s t (.slice A m c)).run P w=.ok (.string (strOfNums xs)) w:=by
   rcases Nat.eq_zero_or_pos m with h0|h0
   ·subst h0;have hn:xs=[]:=List.eq_nil_of_length_eq_zero hlen;subst hn;cases A with
    | none=>rw[run_convert_bytes_nil w s e aN.h aN.h 0 c t aN.h];rfl
    | some ad =>
     rw[run_convert_bytes_string w s t e _ 0 c aN.h aN.h aN.h,run_bytesToString w ad 0 c [] (by simp[loadCells,loadCellsFrom])];rfl
   ·obtain⟨b,off,rfl,hc⟩:=e3 h0;exact run_convert_bytes_arg w s e aN.h aN.h b off m c xs hlen (fun i hi=>hc i _ (by simp[aD,List.getD_eq_getElem?_getD,show i<xs.length from by omega]) w hw) t aN.h
  simp only[execOp,hx,Sem.run_bind,hrun,Result.andThen_ok,Sem.run_pure]) h3⟩
instance (t u:TypeId)(x y:Operand)(xs ys:List Int):MS P w0 W H (.binOp .eql t x y u) [.string (strOfNums xs),.string (strOfNums ys)] (.bool (xs==ys)) (dL xs∧dL ys) :=
 ⟨fun hc _ _ _ _ _ _ _ _ _ _ _ _ _ h1 h2 h3=>dW aE rfl h2 (fun a w ha hw=>by obtain⟨p,q⟩:=dP h1;simp[execOp,ha.eval p,ha.eval q,eqGuard,binOp_string_eql,bEt hc.1 hc.2]) h3⟩
theorem bGh{t e:TypeId}[h:aN P t (.pointer e)]:P.underlying t=some (.pointer (P.pointee t)):=by have:=h.h;rw[this,Program.pointee,this]
instance (t u e:TypeId)(x y:Operand)(p:Addr)[aN P t (.pointer e)]:MS P w0 W H (.binOp .eql t x y u) [.pointer (some p),.pointer none] (.bool false) True :=
 ⟨fun _ _ _ _ _ _ _ _ _ _ _ _ _ _ h1 h2 h3=>dW aE rfl h2 (fun a w ha hw=>by obtain⟨p,q⟩:=dP h1;simp[execOp,ha.eval p,ha.eval q,eqGuard,run_eql_pointer_nil w t _ (bGh (t:=t) (e:=e))]) h3⟩
end
section
variable {F:Fence} {n:Nat} {P:Program} {N:Nat} {ds:List Deferred} {w0:World} {W:Nat→Prop} {σ:List (Nat×Value)} {H:List HE} {Q:Exit→Act→World→Prop}
variable {ops:Array Oper} {rest:List Oper} {d:Nat} {ty:TypeId} {pos:String} {aft:Array Edge} {gd:Option (Nat×Bool)} {v:Value}
variable {dst:Nat} {f:FuncId} {args:Array Operand} {ts:Array TypeId} {us:List Value} {S R:List HE} {Rl:Value→List HE→Prop}
end
attribute [local irreducible] OJ J bM Code.wpIn wpListIn Oper.wpIn bodyPost CallsIn aF
theorem bGu(A B:Option Addr)(c d:Nat)(xs ys:List Int)(w:World)(hx:bP w (bB []) A xs.length c 1 (aD .u8 xs))(hy:bP w (bB []) B ys.length d 1 (aD .u8 ys))(h1:dL xs)(h2:dL ys):
  aF prog 18 [.slice A xs.length c,.slice B ys.length d] [] w (fun v S'=>v=.bool (xs==ys)∧S'=[]):=by
 refine aJ func18 rfl ntmps18 rfl ⟨aE,.nil⟩ (fun n=>?_);simp only[aG];refine aX;refine sF rfl rfl rfl ⟨h1,h2⟩ ?_;refine aX;exact aM rfl rfl (.nil _) ⟨rfl,rfl⟩
end Go.Proofs.YtbhchphfmhmabaaGreat
namespace Go.Proofs.YtbhchphfmhmabaaGreat
attribute [local irreducible] OJ J bM Code.wpIn wpListIn Oper.wpIn bodyPost CallsIn aF
theorem bF9(a b:Nat):aAf (a ^^^ b)=aAf a ^^^ aAf b:=by
 unfold aAf;rw[Nat.xor_div_two];have hm:(a ^^^ b)%2=(a+b)%2:=by
  have h:=Nat.xor_mod_two_pow (a:=a) (b:=b) (n:=1);rw[Nat.pow_one]at h;rw[h];rcases Nat.mod_two_eq_zero_or_one a with h1|h1<;>rcases Nat.mod_two_eq_zero_or_one b with h2|h2<;>rw[h1,h2]
  ·show 0=_;omega
  ·show 1=_;omega
  ·show 1=_;omega
  ·show 0=_;omega
 rw[hm];have e1:∀x y z u:Nat,x ^^^ z ^^^ (y ^^^ u)=x ^^^ y ^^^ (z ^^^ u):=fun x y z u=>by rw[Nat.xor_assoc,Nat.xor_assoc,← Nat.xor_assoc z y u,Nat.xor_comm z y,Nat.xor_assoc y z u]
 rw[e1];congr 1;rcases Nat.mod_two_eq_zero_or_one a with h1|h1<;>rcases Nat.mod_two_eq_zero_or_one b with h2|h2
 ·rw[if_neg oo,if_neg oo,if_neg oo];rfl
 ·rw[if_pos oo,if_neg oo,if_pos oo,Nat.zero_xor]
 ·rw[if_pos oo,if_pos oo,if_neg oo,Nat.xor_zero]
 ·rw[if_neg oo,if_pos oo,if_pos oo,Nat.xor_self]
theorem bH6{x:Nat}(h:x<4294967296):4294967295 ^^^ x=4294967295-x:=by
 have e:(BitVec.ofNat 32 4294967295 ^^^ BitVec.ofNat 32 x).toNat=(~~~ (BitVec.ofNat 32 x)).toNat:=by rw[show BitVec.ofNat 32 4294967295=BitVec.allOnes 32 from by decide,BitVec.allOnes_xor]
 rw[BitVec.toNat_xor,BitVec.toNat_not,BitVec.toNat_ofNat,BitVec.toNat_ofNat,Nat.mod_eq_of_lt oo,Nat.mod_eq_of_lt h]at e;rw[e]
def aP9(r n:Nat):Nat→Nat
 | 0=>r
 | k+1=>(aP9 r n k/2) ^^^ (if (aP9 r n k%2=1)↔(n/2^k%2=1)then 0 else 3988292384)
theorem bEp(r n:Nat):∀k,aAg k (r ^^^ n)=aP9 r n k ^^^ n/2^k
 | 0=>by simp[aAg,aP9]
 | k+1=>by
  rw[aAg,bEp r n k,bF9];unfold aAf;rw[aP9,show n/2^(k+1)=n/2^k/2 by rw[Nat.pow_succ,Nat.div_div_eq_div_mul]];generalize aP9 r n k=q;generalize n/2^k=m;have e1:∀x y z u:Nat,x ^^^ z ^^^ (y ^^^ u)=x ^^^ (z ^^^ u) ^^^ y:=fun x y z u=>by rw[Nat.xor_assoc,Nat.xor_assoc,Nat.xor_comm y u,← Nat.xor_assoc z u y]
  rw[e1];congr 2;rcases Nat.mod_two_eq_zero_or_one q with h1|h1<;>rcases Nat.mod_two_eq_zero_or_one m with h2|h2<;>simp[h1,h2]
theorem bGl(r n:Nat)(h:n<256):aP9 r n 8=aAg 8 (r ^^^ n):=by rw[bEp,show n/2^8=0 by omega,Nat.xor_zero]
theorem bEq{r:Nat}(n:Nat)(h:r<4294967296):∀k,aP9 r n k<4294967296
 | 0=>h
 | k+1=>by have:=bEq n h k;exact Nat.xor_lt_two_pow (n:=32) oo (by split<;>omega)
theorem bGx(a r:List Int){i n:Nat}(h:i+n≤a.length):pD (a++r) i n=pD a i n:=by unfold pD;rw[List.drop_append_of_le_length oo,List.take_append_of_le_length (by rw[List.length_drop];omega)]
section
variable {W H cell:Nat} {ox oy:Int} {z:List Int}
end
end Go.Proofs.YtbhchphfmhmabaaGreat
namespace Go.Proofs.YtbhchphfmhmabaaGreat
open Go.RowKit _root_.Go.Proofs.Tryz
section
variable {α:Type} {e:α→List Value} {s:Nat}
end
section
variable {P:Program} {w0:World} {W:Nat→Prop} {H:List HE}
end
instance (k s t a b c:Int):tD dU [.int .i64 k,.int .u16 s,.int .u32 t,.int .i32 a,.int .i32 b,.int .i32 c] ⟨k,s,t,a,b,c⟩:=⟨rfl⟩
open Go.ChangeAt Go.ChangeShapes Go.Deep Go.Joins Go.WideShapes
theorem bF0{P:Program}{f:FuncId}{args:List Value}{w:World}{v0:Value}(h:aF P f args [] w (fun v _=>v=v0)):Calls P f args.toArray w fun e w'=>e=.returned v0∧Below w.heap.size w w':=by refine h.calls.mono ?_;rintro e w' ⟨v,S',rfl,rfl,hst⟩;exact⟨rfl,hst.os,hst.tape,hst.output,hst.size,fun k hk=>hst.old k hk (by rintro⟨x,hx,_⟩;cases hx)⟩
section
variable {H:Type} {enc:TypeId×Value→H} {P:Program} {w:World} {base:Nat} {spare:Nat→Bool} {held:Bool}
theorem bGi{f:Func}{s:ChangeSpec}{apart fresh handsOn again:Bool}{W W':World}{args:Array Value}{v:Value}{ds gs:List (DataW H)}{before pa pv:List MemPlace}
  (hW:DataW.Whole enc P f.params.toList s.vars apart W args.toList ds gs before)
  (hres:∀(b:Nat) (sp:Nat→Bool) (hd:Bool),DataW.TrodAll enc P W' b sp hd f.resultTypes.toList (v.resultList f.resultTypes.size) (s.fn H (ds++gs)).results [])
  (hargs:∀sp:Nat→Bool,(∀p∈before,sp p.block=true)→DataW.TrodAll enc P W' 0 sp true f.params.toList args.toList (s.fn H (ds++gs)).args pa)
  (hvars:∀sp:Nat→Bool,(∀p∈before,sp p.block=true)→DataW.TrodVars enc P W' sp s.vars (s.fn H (ds++gs)).vars pv)
  (hps:before=pa++pv) (hb:Below W.heap.size W W')
  (hok:∀(j:Nat) (t:TypeId) (r:Value),f.resultTypes[j]? = some t→(v.resultList f.resultTypes.size)[j]? = some r→Value.okWide P W' .any 0 t r) :
  s.post enc P f apart fresh handsOn again W args v W':=by
 have hlt:∀p∈before,p.block<W.heap.size:=fun p hp=>hW.lt p hp;have hold:∀p∈before,(fun b=>decide (b<W.heap.size)) p.block=true:=fun p hp=>by simpa using hlt p hp
 refine⟨ds,gs,before,[],pa,pv,hW,hres _ _ _,hargs _ hold,hvars _ hold,World.keptBut_mono (fun p hp=>⟨hp,?_⟩) (hb.frame (·∈before)),fun _=>?_⟩
 ·rw[hps,List.mem_append]at hp;exact Or.inr hp
 ·obtain⟨_,_,_,_,_,hz,hn⟩:=hW;refine⟨hok,_,_,([]++pa)++pv,⟨[]++pa,pv,trodAll_append (hargs _ (fun _ _=>rfl)) (hres _ _ _),hvars _ (fun _ _=>rfl),rfl,?_,?_⟩,?_⟩
  ·intro b off hp;have hin:MemPlace.cell b off∈before:=by rw[hps];simpa using hp
   rw[hb.frozen (hlt _ hin)];exact hz b off hin
  ·intro ha;have:=hn ha;rw[hps]at this;simpa using this
  ·intro p hp _;rw[hps];simpa using hp
theorem bEv(hl:laidOutB P=true){W W':World}{sp':Nat→Bool}: ∀(ts:List TypeId) (vs:List Value) (ds:List (DataW H)) (ps:List MemPlace),(∀t∈ts,P.readableRec t=true∧t<P.types.size) →
  DataW.TrodAll enc P W base (fun _=>true) true ts vs ds ps→(∀p∈ps,W.sameAt W' p)→(∀p∈ps,sp' p.block=true)→DataW.TrodAll enc P W' base sp' true ts vs ds ps
 | [],[],[],ps,_,h,_,_=>h
 | t::ts,v::vs,d::ds,ps,hr,h,hs,hsp=>by
  obtain⟨p,q,h1,h2,rfl⟩:=h;have ht:=hr t aE;exact⟨p,q,Go.WideElems.Trod_stays hl ht.1 ht.2 h1 (fun x hx=>hs x (by simp[hx])) (fun x hx=>hsp x (by simp[hx])),bEv hl ts vs ds q (fun t ht=>hr t (by simp[ht])) h2 (fun x hx=>hs x (by simp[hx])) (fun x hx=>hsp x (by simp[hx])),rfl⟩
 | [],_::_,_,_,_,h,_,_=>h.elim
 | [],[],_::_,_,_,h,_,_=>h.elim
 | _::_,[],_,_,_,h,_,_=>h.elim
 | _::_,_::_,[],_,_,h,_,_=>h.elim
theorem bEu:∀(ts:List TypeId) (vs:List Value) (ds:List (DataW H)) (ps:List MemPlace),DataW.TrodAll enc P w base spare held ts vs ds ps→ds.length=ts.length
 | [],[],[],_,_=>rfl
 | t::ts,v::vs,d::ds,ps,h=>by
  obtain⟨p,q,h1,h2,rfl⟩:=h;rw[List.length_cons,List.length_cons,bEu ts vs ds q h2]
 | [],_::_,_,_,h=>h.elim
 | [],[],_::_,_,h=>h.elim
 | _::_,[],_,_,h=>h.elim
 | _::_,_::_,[],_,h=>h.elim
theorem bG9{f:Func}{s:ChangeSpec}{W W':World}{args:Array Value}{ds gs:List (DataW H)}{before:List MemPlace}{tb:TypeId}(hl:laidOutB P=true)(hub:P.underlying tb=some .bool)
  (hW:DataW.Whole enc P f.params.toList s.vars false W args.toList ds gs before) (hvars:s.vars=[]) (hrt:f.resultTypes=#[tb])
  (hsp:∀es:List (DataW H),es.length=f.params.size→s.fn H es = { results:=[.lit (.bool true)],args:=es })
  (hread:∀t∈f.params.toList,P.readableRec t=true∧t<P.types.size) (hb:Below W.heap.size W W'):s.post enc P f false true false false W args (.bool true) W':=by
 have hW':=hW;obtain⟨p,q,hA,hV,hbe,hfz,hnd⟩:=hW;rw[hvars]at hV;obtain⟨rfl,rfl⟩:=trodVars_none hV;have hlen:=bEu _ _ _ _ hA;have hfn:=hsp ds (by rw[hlen];simp);have hlt:∀x∈p,x.block<W.heap.size:=fun x hx=>hW'.lt x (by rw[hbe];simp[hx]);refine bGi (pa:=p) (pv:=[]) hW' (fun _ _ _=>?_) (fun sp hs=>?_) (fun _ _=>?_) (by simpa using hbe) hb ?_
 ·rw[List.append_nil,hfn,hrt];exact trodAll_mk1 (shut_bool hub true)
 ·rw[List.append_nil,hfn];exact bEv hl _ _ _ _ hread hA (fun x hx=>hb.same (hlt x hx)) (fun x hx=>hs x (by rw[hbe];simp[hx]))
 ·rw[List.append_nil,hfn,hvars];rfl
 ·exact ok_one hrt rfl (okWide_bool_mk hub true)
theorem bEc{k:IntKind}{n:Int}(h:(Lit.int k n).wf=true):bG k n:=by cases k<;>simp[Lit.wf,IntKind.min,IntKind.max,IntKind.signed,IntKind.bits]at h<;>simp only[bG]<;>omega
theorem bEm{r:Reach}{b0:Nat}{t:TypeId}{k:IntKind}{v:Value}{d:DataW H}{ps:List MemPlace}(ht:P.underlying t=some (.int k))(hval:Value.okWide P w r b0 t v)(hd:DataW.Trod enc P w base spare held t v d ps):∃n,v=.int k n∧bG k n:=by obtain⟨n,h1,-,-,h4⟩:=open_int ht hval hd;exact⟨n,h1,bEc h4⟩
theorem bE3{r:Reach}{b0:Nat}{t e:TypeId}{k:IntKind}{v:Value}{d:DataW H}{ps:List MemPlace}(ht:P.underlying t=some (.slice e))(he:P.underlying e=some (.int k))(hC:P.cellsOf e=1)(hv:Value.okWide P w r b0 t v)(h:DataW.Trod enc P w 0 (fun _=>true) true t v d ps):
  ∃(A:Option Addr) (c:Nat) (xs:List Int),v=.slice A xs.length c∧bP w (bB []) A xs.length c 1 (aD k xs)∧∀x∈xs,bG k x:=by
 obtain⟨a0,len,cap,rfl⟩:=okWide_slice ht hv;obtain⟨fuel,hf⟩:=h;have hf':DataW.trod enc P w 0 (fun _=>true) true fuel t [.slice a0 len cap]=some (d,ps):=by simpa [Value.cells] using hf
 rcases open_ints ht he hC hf' with⟨hcs,-⟩ | ⟨a,len',cap',zs,hcs,-,hl,hm,hmm,-,hcell,hwf⟩
 ·simp at hcs;obtain⟨rfl,rfl,rfl⟩:=hcs;exact⟨none,0,[],rfl,⟨Ro.nil _ _ _⟩,aE⟩
 ·simp at hcs hmm;obtain⟨rfl,rfl,rfl⟩:=hcs;have hlen:(zs.take len).length=len:=by rw[List.length_take];omega
  refine⟨some a,cap,zs.take len,by rw[hlen],⟨some a,cap,rfl,oo,hm,aE,fun hpos=>?_⟩,fun x hx=>bEc (hwf x (List.mem_of_mem_take hx))⟩;rw[hlen]at hpos;have hc0:=hcell 0 oo;obtain⟨b,off,spot⟩:=a;have hspot:spot=none:=by simpa [Addr.add] using World.cell?_spot hc0
  subst hspot;have hblt:b<w.heap.size:=by
   rcases Nat.lt_or_ge b w.heap.size with hlt|hge
   ·exact hlt
   ·rw[pL]at hc0;simp[World.cell?,Array.getElem?_eq_none hge]at hc0
  refine⟨b,off,rfl,hblt,(by rintro⟨x,hx,_⟩;cases hx),fun j u hu=>?_⟩;have hj:j<len:=by have:=(List.getElem?_eq_some_iff.1 hu).1;simpa [hlen] using this
  have:=hcell j oo;rw[pL]at this;rw[this];simp only[aD,List.getElem?_map,List.getElem?_take,if_pos hj]at hu;rw[List.getElem?_eq_getElem oo]at hu;simp at hu;rw[← hu,List.getD_eq_getElem?_getD,List.getElem?_eq_getElem oo];rfl
end
theorem bGe:laidOutB prog=true:=by kernel_rfl
section
variable {H:Type} {enc:TypeId×Value→H} {P:Program} {w:World} {base:Nat} {spare:Nat→Bool} {held:Bool}
theorem bH2{t0 t1 t2 t3 t4 t5 t6:TypeId}{args:Array Value}{ds:List (DataW H)}{ps:List MemPlace}(h:DataW.TrodAll enc P w base spare held [t0,t1,t2,t3,t4,t5,t6] args.toList ds ps):
  ∃v0 v1 v2 v3 v4 v5 v6 d0 d1 d2 d3 d4 d5 d6 p0 p1 p2 p3 p4 p5 p6,args=#[v0,v1,v2,v3,v4,v5,v6]∧ds=[d0,d1,d2,d3,d4,d5,d6]∧ps=p0++p1++p2++p3++p4++p5++p6∧DataW.Trod enc P w base spare held t0 v0 d0 p0∧DataW.Trod enc P w base spare held t1 v1 d1 p1∧DataW.Trod enc P w base spare held t2 v2 d2 p2∧DataW.Trod enc P w base spare held t3 v3 d3 p3∧DataW.Trod enc P w base spare held t4 v4 d4 p4∧DataW.Trod enc P w base spare held t5 v5 d5 p5∧DataW.Trod enc P w base spare held t6 v6 d6 p6:=by
 obtain⟨v0,vs0,d0,ds0,p0,q0,hargs,rfl,rfl,k0,h0⟩:=trodAll_cons h;obtain⟨v1,vs1,d1,ds1,p1,q1,rfl,rfl,rfl,k1,h1⟩:=trodAll_cons h0;obtain⟨v2,vs2,d2,ds2,p2,q2,rfl,rfl,rfl,k2,h2⟩:=trodAll_cons h1;obtain⟨v3,vs3,d3,ds3,p3,q3,rfl,rfl,rfl,k3,h3⟩:=trodAll_cons h2;obtain⟨v4,vs4,d4,ds4,p4,q4,rfl,rfl,rfl,k4,h4⟩:=trodAll_cons h3;obtain⟨v5,vs5,d5,ds5,p5,q5,rfl,rfl,rfl,k5,h5⟩:=trodAll_cons h4;obtain⟨v6,vs6,d6,ds6,p6,q6,rfl,rfl,rfl,k6,h6⟩:=trodAll_cons h5;obtain⟨rfl,rfl,rfl⟩:=trodAll_nil h6;exact⟨v0,v1,v2,v3,v4,v5,v6,d0,d1,d2,d3,d4,d5,d6,p0,p1,p2,p3,p4,p5,p6,by cases args;simp_all,rfl,aE,k0,k1,k2,k3,k4,k5,k6⟩
theorem aPd.app:∀{ks ls:List IntKind} {cs ds:List Value},aPd ks cs→aPd ls ds→aPd (ks++ls) (cs++ds)
 | [],_,_,_,h,g=>by rw[show _=[]from h];simpa using g
 | k::ks,_,_,_,⟨n,r,e,hn,h⟩,g=>⟨n,r++_,by rw[e];rfl,hn,h.app g⟩
structure aPn(P:Program)(t:TypeId)(ks:List IntKind):Prop where
 len:P.cellsOf t=ks.length
 h:∀{H:Type} {enc:TypeId×Value→H} {w:World} {base:Nat} {spare:Nat→Bool} {held:Bool} {fuel:Nat} {cs:List Value} {x:DataW H×List MemPlace},DataW.trod enc P w base spare held fuel t cs=some x→aPd ks cs
theorem bDu{t:TypeId}{k:IntKind}(ht:P.underlying t=some (.int k))(hc:P.cellsOf t=1):aPn P t [k]:=⟨hc,fun h=>by obtain⟨n,rfl,-,hwf⟩:=DataW.trod_int ht h;exact⟨n,[],rfl,bEc hwf,rfl⟩⟩
def bDt(P:Program):List Field→Nat→List (List IntKind)→Prop
 | [],_,kss=>kss=[]
 | f::fs,off,kss=>∃ks r,kss=ks::r∧f.offset=off∧aPn P f.type ks∧bDt P fs (off+ks.length) r
theorem bEi{cs:List Value}: ∀(fs:List Field) (off:Nat) (kss:List (List IntKind)),bDt P fs off kss→off+kss.flatten.length≤cs.length →
  (∀f∈fs,∃(n:Nat) (x:DataW H×List MemPlace),DataW.trod enc P w base spare held n f.type ((cs.drop f.offset).take (P.cellsOf f.type))=some x)→aPd kss.flatten ((cs.drop off).take kss.flatten.length)
 | [],off,kss,h,_,_=>by rw[show kss=[]from h];simp[aPd]
 | f::fs,off,_,⟨ks,r,rfl,ho,hk,hr⟩,hl,hf=>by
  obtain⟨n,x,hx⟩:=hf f (List.mem_cons_self ..);have h1:=hk.h hx;rw[ho,hk.len]at h1;rw[List.flatten_cons,List.length_append]at hl ⊢;have h2:=bEi fs (off+ks.length) r hr oo (fun g hg=>hf g (List.mem_cons_of_mem _ hg));have e:(cs.drop off).take (ks.length+r.flatten.length)=(cs.drop off).take ks.length++(cs.drop (off+ks.length)).take r.flatten.length:=by rw[List.take_add,List.drop_drop]
  rw[e];exact h1.app h2
theorem bD7{t:TypeId}{fs:Array Field}(kss:List (List IntKind))(ht:P.underlying t=some (.struct fs))(hf:bDt P fs.toList 0 kss)(hc:P.cellsOf t=kss.flatten.length):aPn P t kss.flatten:=⟨hc,fun {H enc w base spare held fuel cs x} h=>by
 obtain⟨xs,n,-,-,hl,hxl,hat⟩:=DataW.trod_struct ht h;have:=bEi (enc:=enc) (w:=w) (base:=base) (spare:=spare) (held:=held) (cs:=cs) fs.toList 0 kss hf oo (fun f hf=>by
  obtain⟨i,hi,rfl⟩:=List.getElem_of_mem hf;have hi':i<fs.size:=by simpa using hi
  have h1:=hat i fs[i] (Array.getElem?_eq_getElem hi');rw[List.getElem?_eq_getElem (by omega:i<xs.length)]at h1;exact⟨n,_,by simpa using h1⟩)
 rw[List.drop_zero,List.take_of_length_le oo]at this;exact this⟩
theorem bEn{r:Reach}{b0:Nat}{t:TypeId}{fs:Array Field}{ks:List IntKind}{v:Value}{d:DataW H}{ps:List MemPlace}(ht:P.underlying t=some (.struct fs))(hk:aPn P t ks)(hv:Value.okWide P w r b0 t v)(h:DataW.Trod enc P w base spare held t v d ps):
  ∃cs:List Value,v=.agg cs.toArray∧aPd ks cs:=by
 obtain⟨cs,rfl,hsz⟩:=okWide_struct ht hv;obtain⟨fuel,hf⟩:=h;exact⟨cs.toList,aE,hk.h hf⟩
end
theorem aP3:aPn prog 2 [.i64]:=bDu underlying2 (by kernel_rfl)
theorem aUa:aPn prog 3 [.i64]:=bDu underlying3 (by kernel_rfl)
theorem bF6:aPn prog 23 [.u32]:=bDu underlying23 (by kernel_rfl)
theorem bF5:aPn prog 33 [.i64,.i64]:=bD7 [[.i64],[.i64]] underlying33 ⟨_,_,rfl,rfl,aP3,_,_,rfl,rfl,aP3,rfl⟩ (by kernel_rfl)
theorem bF4:aPn prog 25 [.u32,.i64,.i64,.i64]:=bD7 [[.u32],[.i64],[.i64],[.i64]] underlying25 ⟨_,_,rfl,rfl,bF6,_,_,rfl,rfl,aP3,_,_,rfl,rfl,aUa,_,_,rfl,rfl,aP3,rfl⟩ (by kernel_rfl)
end Go.Proofs.YtbhchphfmhmabaaGreat
namespace Go.Proofs.YtbhchphfmhmabaaGreat
open Go.RowKit _root_.Go.Proofs.Tryz
def aD1(k:Int):Int:=if k=1∨k=6 then 3 else if k=2∨k=3∨k=7 then 2 else if k=4 then 0 else if k=5 then 1 else -1
def aFb(k:Int):Nat:=(12+4*aD1 k).toNat
theorem aTf(k:Int): -1≤aD1 k∧aD1 k≤3:=by
 unfold aD1;repeat' split
 all_goals omega
theorem aP6{k:Int}(h:¬aD1 k<0):12≤aFb k∧aFb k≤24∧(aFb k:Int)=12+4*aD1 k:=by have:=aTf k;unfold aFb;omega
def aE2(b:List Int):Int :=
 if b.length=0 then 5 else if b.getD 0 0≠126 then 3 else if b.length=1 then 5
 else if aD1 (b.getD 1 0)<0 then 13 else if b.length<aFb (b.getD 1 0)then 5
 else if pM (b.take (aFb (b.getD 1 0)))then 0 else 4
def aI2(b:List Int)(i:Nat):Int:=if (i:Int)<aD1 (b.getD 1 0)then IntKind.i32.wrap (dN b (8+4*i) 4:Nat)else 0
def aFm(b:List Int):lM:=⟨b.getD 1 0,(dN b 2 2:Nat),(dN b 4 4:Nat),aI2 b 0,aI2 b 1,aI2 b 2⟩
theorem bE4{b c:List Int}{i:Nat}(h:i<b.length):(b++c).getD i 0=b.getD i 0:=by rw[List.getD_eq_getElem?_getD,List.getD_eq_getElem?_getD,List.getElem?_append_left h]
theorem bH0{b c:List Int}{n:Nat}(h:n≤b.length):(b++c).take n=b.take n:=List.take_append_of_le_length h
theorem bDl{b:List Int}(h:aE2 b≠5)(c:List Int):aE2 (b++c)=aE2 b∧(aE2 b=0→aFb (b.getD 1 0)≤b.length∧12≤aFb (b.getD 1 0)):=by
 unfold aE2 at *;by_cases h0:b.length=0
 ·rw[if_pos h0]at h;exact absurd rfl h
 rw[if_neg h0]at h ⊢;rw[if_neg (by rw[List.length_append];omega),bE4 oo];by_cases h1:b.getD 0 0≠126
 ·rw[if_pos h1,if_pos h1];exact⟨rfl,fun e=>absurd e od⟩
 rw[if_neg h1]at h ⊢;rw[if_neg h1];by_cases h2:b.length=1
 ·rw[if_pos h2]at h;exact absurd rfl h
 rw[if_neg h2]at h ⊢;rw[if_neg (by rw[List.length_append];omega),bE4 oo];by_cases h3:aD1 (b.getD 1 0)<0
 ·rw[if_pos h3,if_pos h3];exact⟨rfl,fun e=>absurd e od⟩
 rw[if_neg h3]at h ⊢;rw[if_neg h3];by_cases h4:b.length<aFb (b.getD 1 0)
 ·rw[if_pos h4]at h;exact absurd rfl h
 rw[if_neg h4]at h ⊢;rw[if_neg (by rw[List.length_append];omega),bH0 oo];exact⟨rfl,fun _=>⟨oo,(aP6 h3).1⟩⟩
def aPi(x:Int):Nat:=(x%4294967296).toNat
def aUb(f:lM):List Int:=([f.a,f.b,f.c].take (aD1 f.kind).toNat).flatMap fun x=>cX (aPi x) 4
def aL9(f:lM):List Int:=[126,f.kind]++cX f.seq.toNat 2++(cX f.time.toNat 4++aUb f)
def aGl(f:lM):Int:=if aD1 f.kind<0 then 13 else if (aD1 f.kind<3∧f.c≠0)∨(aD1 f.kind<2∧f.b≠0)∨(aD1 f.kind<1∧f.a≠0)then 1 else 0
def aDn(f:lM):List Int:=if aGl f=0 then kI (aL9 f)else []
theorem bH3{x:Int}(h : -2147483648≤x∧x≤2147483647):aPi x<4294967296∧IntKind.i32.wrap (aPi x:Nat)=x:=by unfold aPi;rw[IntKind.wrap_i32];omega
theorem bG3(f:lM)(h:¬aD1 f.kind<0):((aUb f).length:Int)=4*aD1 f.kind:=by
 have hk:aD1 f.kind=0∨aD1 f.kind=1∨aD1 f.kind=2∨aD1 f.kind=3:=by have:=aTf f.kind;omega
 unfold aUb;rcases hk with e|e|e|e<;>rw[e]<;>simp[eL]
theorem bDv(f:lM)(h:¬aD1 f.kind<0):(aL9 f).length+4=aFb f.kind:=by have h1:=bG3 f h;have h2:=(aP6 h).2.2;unfold aL9;simp only[List.length_append,List.length_cons,List.length_nil,eL];omega
theorem bBx{f:lM}(h:aGl f=0):¬aD1 f.kind<0:=by intro hq;unfold aGl at h;rw[if_pos hq]at h;exact absurd h od
theorem bD0{f:lM}(h:aGl f=0):(aDn f).length=aFb f.kind:=by unfold aDn;rw[if_pos h,yW,bDv f (bBx h)]
theorem bE0{f:lM}(h:aGl f=0)(c:List Int):aE2 (aDn f++c)=0∧(aDn f++c).getD 1 0=f.kind:=by
 have hl:=bD0 h;have hn:=bBx h;have hs:=(aP6 hn).1;have e:aDn f=kI (aL9 f):=if_pos h;have g0:(aDn f++c).getD 0 0=126:=by rw[e];rfl
 have g1:(aDn f++c).getD 1 0=f.kind:=by rw[e];rfl
 refine⟨?_,g1⟩;unfold aE2;rw[g0,g1,if_neg (by rw[List.length_append];omega),if_neg od,if_neg (by rw[List.length_append];omega),if_neg hn,if_neg (by rw[List.length_append];omega),← hl,List.take_left,if_pos (by rw[e];exact aJh _)]
def aLd:Nat→List Int→List lM×Nat×List Int
 | 0,b=>([],0,b)
 | k+1,b=>if aE2 b=5 then ([],0,b)else if aE2 b=0 then (aFm b::(aLd k (b.drop (aFb (b.getD 1 0)))).1,(aLd k (b.drop (aFb (b.getD 1 0)))).2)else ((aLd k (b.drop 1)).1,(aLd k (b.drop 1)).2.1+1,(aLd k (b.drop 1)).2.2)
theorem bEj:aE2 []=5:=rfl
theorem bDk:∀(k m:Nat) (b:List Int),b.length≤k→b.length≤m→aLd k b=aLd m b
 | 0,m,b,h,_=>by
  have e:b=[]:=List.eq_nil_of_length_eq_zero oo;subst e;cases m with
  | zero=>rfl
  | succ m=>rw[aLd,aLd,if_pos bEj]
 | k+1,0,b,_,h=>by
  have e:b=[]:=List.eq_nil_of_length_eq_zero oo;subst e;rw[aLd,aLd,if_pos bEj]
 | k+1,m+1,b,h1,h2=>by
  rw[aLd,aLd];by_cases h5:aE2 b=5
  ·rw[if_pos h5,if_pos h5]
  rw[if_neg h5,if_neg h5];have hne:b.length≠0:=fun e=>h5 (by unfold aE2;rw[if_pos e]);by_cases h0:aE2 b=0
  ·obtain⟨-,hs⟩:=bDl h5 [];have hs:=hs h0;rw[if_pos h0,if_pos h0,bDk k m _ (by rw[List.length_drop];omega) (by rw[List.length_drop];omega)]
  ·rw[if_neg h0,if_neg h0,bDk k m _ (by rw[List.length_drop];omega) (by rw[List.length_drop];omega)]
def aDg(b:List Int):List lM×Nat×List Int:=aLd b.length b
theorem bDj{b:List Int}(h:aE2 b=5):aDg b=([],0,b):=by
 unfold aDg;cases hl:b.length with
 | zero=>rfl
 | succ n=>rw[aLd,if_pos h]
theorem bD8{b:List Int}(h:aE2 b=0):aDg b=(aFm b::(aDg (b.drop (aFb (b.getD 1 0)))).1,(aDg (b.drop (aFb (b.getD 1 0)))).2):=by
 have h5:aE2 b≠5:=by rw[h];decide
 obtain⟨-,hs⟩:=bDl h5 [];have hs:=hs h;unfold aDg;obtain⟨n,hn⟩:∃n,b.length=n+1:=⟨b.length-1,oo⟩;rw[hn,aLd,if_neg h5,if_pos h,bDk n _ _ (by rw[List.length_drop];omega) (Nat.le_refl _)]
theorem bD2{b:List Int}(h5:aE2 b≠5)(h0:aE2 b≠0):aDg b=((aDg (b.drop 1)).1,(aDg (b.drop 1)).2.1+1,(aDg (b.drop 1)).2.2):=by have hne:b.length≠0:=fun e=>h5 (by unfold aE2;rw[if_pos e]);unfold aDg;obtain⟨n,hn⟩:∃n,b.length=n+1:=⟨b.length-1,oo⟩;rw[hn,aLd,if_neg h5,if_neg h0,bDk n _ _ (by rw[List.length_drop];omega) (Nat.le_refl _)]
theorem bE5{b c:List Int}{i n:Nat}(h:i+n≤b.length):dN (b++c) i n=dN b i n:=by unfold dN;rw[bGx b c h]
theorem bDx:∀(k:Nat) (b c:List Int),b.length≤k→aDg (b++c)=((aDg b).1++(aDg ((aDg b).2.2++c)).1,(aDg b).2.1+(aDg ((aDg b).2.2++c)).2.1,(aDg ((aDg b).2.2++c)).2.2)
 | k,b,c,hk=>by
  by_cases h5:aE2 b=5
  ·rw[bDj h5];simp only[List.nil_append,Nat.zero_add]
  have hne:b.length≠0:=fun e=>h5 (by unfold aE2;rw[if_pos e]);obtain⟨n,hn⟩:∃n,k=n+1:=⟨k-1,oo⟩;subst hn;obtain⟨e,hs⟩:=bDl h5 c;by_cases h0:aE2 b=0
  ·have hs:=hs h0;have hn3:¬aD1 (b.getD 1 0)<0:=by
    intro hq;have hc:=h0;unfold aE2 at hc;rw[if_neg hne]at hc;by_cases h1:b.getD 0 0≠126
    ·rw[if_pos h1]at hc;exact absurd hc od
    rw[if_neg h1,if_neg oo,if_pos hq]at hc;exact absurd hc od
   have hsz:=(aP6 hn3).2.2;have eg:(b++c).getD 1 0=b.getD 1 0:=bE4 oo;have enum:∀i,aI2 (b++c) i=aI2 b i:=by
    intro i;unfold aI2;rw[eg];split
    ·rw[bE5 oo]
    ·rfl
   have ef:aFm (b++c)=aFm b:=by unfold aFm;rw[eg,enum,enum,enum,bE5 oo,bE5 oo]
   have ed:(b++c).drop (aFb (b.getD 1 0))=b.drop (aFb (b.getD 1 0))++c:=List.drop_append_of_le_length hs.1;rw[bD8 (e.trans h0),bD8 h0,eg,ed,ef,bDx n (b.drop (aFb (b.getD 1 0))) c (by rw[List.length_drop];omega)];simp only[List.cons_append]
  ·have ed:(b++c).drop 1=b.drop 1++c:=List.drop_append_of_le_length oo;rw[bD2 (by rw[e];exact h5) (by rw[e];exact h0),bD2 h5 h0,ed,bDx n (b.drop 1) c (by rw[List.length_drop];omega)];simp only[Prod.mk.injEq,true_and,and_true];omega
theorem bE6(a b c:List Int){i n x:Nat}(ha:a.length=i)(hb:b=cX x n)(hx:x<256^n):dN (a++b++c) i n=x:=wK (by rw[bAl a b c ha (by rw[hb,eL]),hb]) hx
theorem bD3{f:lM}{b:List Int}(hk:b.getD 1 0=f.kind){x:Int}(hx : -2147483648≤x∧x≤2147483647){i:Nat}(pre post:List Int)(hp:pre.length=8+4*i)(hb:b=pre++cX (aPi x) 4++post)(hi:(i:Int)<aD1 f.kind):aI2 b i=x:=by obtain⟨h1,h2⟩:=bH3 hx;unfold aI2;rw[hk,if_pos hi,hb,bE6 pre _ post hp rfl oo,h2]
theorem bEk{f:lM}(hf:f.ok)(h:aGl f=0)(c:List Int):aFm (aDn f++c)=f:=by
 have hn:=bBx h;have hk:=(bE0 h c).2;obtain⟨-,hs,ht,ha,hb,hc⟩:=hf;have hs:0≤f.seq∧f.seq≤65535:=hs;have ht:0≤f.time∧f.time≤4294967295:=ht;have ha : -2147483648≤f.a∧f.a≤2147483647:=ha;have hb : -2147483648≤f.b∧f.b≤2147483647:=hb;have hc : -2147483648≤f.c∧f.c≤2147483647:=hc;obtain⟨tl,htl⟩:∃tl,aDn f++c=[126,f.kind]++cX f.seq.toNat 2++(cX f.time.toNat 4++(aUb f++tl)):=⟨cX (qE (aL9 f)) 4++c,by unfold aDn;rw[if_pos h];unfold kI aL9;simp only[List.append_assoc]⟩;have e1:dN (aDn f++c) 2 2=f.seq.toNat:=by rw[htl];exact bE6 _ _ _ rfl rfl oo
 have e2:dN (aDn f++c) 4 4=f.time.toNat:=by rw[htl,← List.append_assoc];exact bE6 _ _ _ (by simp[eL]) rfl oo
 have hz:=h;unfold aGl at hz;rw[if_neg hn]at hz;have hz:¬((aD1 f.kind<3∧f.c≠0)∨(aD1 f.kind<2∧f.b≠0)∨(aD1 f.kind<1∧f.a≠0)):=fun q=>by rw[if_pos q]at hz;exact absurd hz od
 have hq:aD1 f.kind=0∨aD1 f.kind=1∨aD1 f.kind=2∨aD1 f.kind=3:=by have:=aTf f.kind;omega
 have no:∀i:Nat,¬(i:Int)<aD1 f.kind→aI2 (aDn f++c) i=0:=fun i hi=>by unfold aI2;rw[hk,if_neg hi]
 have e3:aI2 (aDn f++c) 0=f.a∧aI2 (aDn f++c) 1=f.b∧aI2 (aDn f++c) 2=f.c:=by
  unfold aUb at htl;rcases hq with e|e|e|e
  ·exact⟨by rw[no 0 oo];omega,by rw[no 1 oo];omega,by rw[no 2 oo];omega⟩
  ·rw[e]at htl;refine⟨?_,by rw[no 1 oo];omega,by rw[no 2 oo];omega⟩;exact bD3 hk ha ([126,f.kind]++cX f.seq.toNat 2++cX f.time.toNat 4) tl (by simp[eL]) (by rw[htl];simp) oo
  ·rw[e]at htl;refine⟨?_,?_,by rw[no 2 oo];omega⟩
   ·exact bD3 hk ha ([126,f.kind]++cX f.seq.toNat 2++cX f.time.toNat 4) (cX (aPi f.b) 4++tl) (by simp[eL]) (by rw[htl];simp) oo
   ·exact bD3 hk hb ([126,f.kind]++cX f.seq.toNat 2++cX f.time.toNat 4++cX (aPi f.a) 4) tl (by simp[eL]) (by rw[htl];simp) oo
  ·rw[e]at htl;refine⟨?_,?_,?_⟩
   ·exact bD3 hk ha ([126,f.kind]++cX f.seq.toNat 2++cX f.time.toNat 4) (cX (aPi f.b) 4++cX (aPi f.c) 4++tl) (by simp[eL]) (by rw[htl];simp) oo
   ·exact bD3 hk hb ([126,f.kind]++cX f.seq.toNat 2++cX f.time.toNat 4++cX (aPi f.a) 4) (cX (aPi f.c) 4++tl) (by simp[eL]) (by rw[htl];simp) oo
   ·exact bD3 hk hc ([126,f.kind]++cX f.seq.toNat 2++cX f.time.toNat 4++cX (aPi f.a) 4++cX (aPi f.b) 4) tl (by simp[eL]) (by rw[htl];simp) oo
 unfold aFm;rw[hk,e1,e2,e3.1,e3.2.1,e3.2.2];obtain⟨fk,fs,ft,fa,fb,fc⟩:=f;dsimp only at hs ht ⊢;rw[Int.toNat_of_nonneg hs.1,Int.toNat_of_nonneg ht.1]
theorem bDy:∀l:List lM,(∀f∈l,f.ok∧aGl f=0)→aDg (l.flatMap aDn)=(l,0,[])
 | [],_=>rfl
 | f::l,h=>by obtain⟨h1,h2⟩:=h f (List.mem_cons_self ..);have h3:=(bE0 h2 (l.flatMap aDn));have e:(f::l).flatMap aDn=aDn f++l.flatMap aDn:=aE;rw[e,bD8 h3.1,h3.2,← bD0 h2,List.drop_left,bDy l (fun g hg=>h g (List.mem_cons_of_mem _ hg)),bEk h1 h2]
theorem bDz{b:List Int}(h:aE2 b=0):¬aD1 (b.getD 1 0)<0∧aFb (b.getD 1 0)≤b.length:=by
 obtain⟨-,hs⟩:=bDl (b:=b) (by rw[h];decide) [];refine⟨fun hq=>?_,(hs h).1⟩;unfold aE2 at h;by_cases h0:b.length=0
 ·rw[if_pos h0]at h;exact absurd h od
 rw[if_neg h0]at h;by_cases h1:b.getD 0 0≠126
 ·rw[if_pos h1]at h;exact absurd h od
 rw[if_neg h1]at h;by_cases h2:b.length=1
 ·rw[if_pos h2]at h;exact absurd h od
 rw[if_neg h2,if_pos hq]at h;exact absurd h od
theorem bD4{k:Int}(h:¬aD1 k<0):1≤k∧k≤7:=by
 unfold aD1 at h;by_cases h1:k=1∨k=6
 ·omega
 rw[if_neg h1]at h;by_cases h2:k=2∨k=3∨k=7
 ·omega
 rw[if_neg h2]at h;by_cases h3:k=4
 ·omega
 rw[if_neg h3]at h;by_cases h4:k=5
 ·omega
 rw[if_neg h4]at h;exact absurd od h
theorem bE7{b:List Int}(i:Nat):bG .i32 (aI2 b i):=by
 have hw:∀z:Int,-2147483648≤IntKind.i32.wrap z∧IntKind.i32.wrap z≤2147483647:=fun z=>by rw[IntKind.wrap_i32];omega
 unfold aI2;split
 ·exact hw _
 ·exact⟨od,od⟩
theorem bFz{b:List Int}(hu:dL b)(h:aE2 b=0):(aFm b).ok:=by
 obtain⟨h1,h2⟩:=bDz h;have h3:=bD4 h1;have h4:=(aP6 h1).1;have hl2:=sB hu (a:=2) (n:=2) oo;have hl4:=sB hu (a:=4) (n:=4) oo;refine⟨?_,?_,?_,bE7 0,bE7 1,bE7 2⟩
 ·show (-9223372036854775808:Int)≤b.getD 1 0∧b.getD 1 0≤(9223372036854775807:Int);omega
 ·show (0:Int)≤((dN b 2 2:Nat):Int)∧((dN b 2 2:Nat):Int)≤(65535:Int);omega
 ·show (0:Int)≤((dN b 4 4:Nat):Int)∧((dN b 4 4:Nat):Int)≤(4294967295:Int);omega
theorem bD9:∀(k:Nat) (b:List Int),b.length≤k→dL b→(∀f∈(aDg b).1,f.ok∧1≤f.kind∧f.kind≤7)∧12*(aDg b).1.length+(aDg b).2.1+(aDg b).2.2.length≤b.length∧dL (aDg b).2.2∧aE2 (aDg b).2.2=5
 | k,b,hk,hu=>by
  by_cases h5:aE2 b=5
  ·rw[bDj h5];exact⟨fun f hf=>absurd hf aE,aE,hu,h5⟩
  have hne:b.length≠0:=fun e=>h5 (by unfold aE2;rw[if_pos e]);obtain⟨n,hn⟩:∃n,k=n+1:=⟨k-1,oo⟩;subst hn;by_cases h0:aE2 b=0
  ·obtain⟨h1,h2⟩:=bDz h0;have h4:=(aP6 h1).1;obtain⟨q1,q2,q3,q4⟩:=bD9 n (b.drop (aFb (b.getD 1 0))) (by rw[List.length_drop];omega) (fun x hx=>hu x (List.mem_of_mem_drop hx));rw[bD8 h0];refine⟨fun f hf=>?_,?_,q3,q4⟩
   ·rcases List.mem_cons.1 hf with rfl|hf
    ·exact⟨bFz hu h0,bD4 h1⟩
    ·exact q1 f hf
   ·rw[List.length_drop]at q2;simp only[List.length_cons];omega
  ·obtain⟨q1,q2,q3,q4⟩:=bD9 n (b.drop 1) (by rw[List.length_drop];omega) (fun x hx=>hu x (List.mem_of_mem_drop hx));rw[bD2 h5 h0];refine⟨q1,?_,q3,q4⟩;rw[List.length_drop]at q2;simp only;omega
theorem bG4(f:lM):dL (aUb f):=by intro x hx;unfold aUb at hx;rw[List.mem_flatMap]at hx;obtain⟨y,-,hy⟩:=hx;exact uL _ _ x hy
theorem bDw{f:lM}(h:¬aD1 f.kind<0):dL (aL9 f):=by have hk:=bD4 h;refine dL.app (dL.app ?_ (uL _ _)) (dL.app (uL _ _) (bG4 f));intro x hx;simp only[List.mem_cons,List.not_mem_nil,or_false]at hx;rcases hx with rfl|rfl<;>omega
theorem bE1(f:lM):dL (aDn f):=by
 unfold aDn;split
 ·rename_i h;exact aJj (bDw (bBx h))
 ·exact fun x hx=>absurd hx aE
section
variable {P:Program} {w0:World} {W:Nat→Prop} {H:List HE}
end
attribute [local irreducible] OJ J bM Code.wpIn wpListIn Oper.wpIn bodyPost CallsIn aF
theorem bGr(A:Option Addr)(c:Nat)(ys:List Int)(w:World)(hr:bP w (bB []) A ys.length c 1 (aD .u8 ys))(hu:dL ys)(hm:ys.length<1000000000):
  aF prog 130 [.slice A ys.length c] [] w (fun v S'=>v=.int .u32 (qE ys:Nat)∧S'=[]):=by
 refine aJ func130 rfl ntmps130 rfl ⟨aE,.nil⟩ (fun n=>?_);simp only[aG];refine bI;refine cG (X:=Nat) (fun i=>i≤ys.length) (fun i=>[(0,.slice A ys.length c),(3,.int .u32 (uO ys 4294967295 i:Nat)),(4,.int .i64 i)]) (fun _=>[]) (fun i=>ys.length-i) 0 aE ⟨rfl,rfl,rfl,trivial⟩ (.nil _) ?_;intro i hi;have hk:=aEv hu (r:=4294967295) oo i hi;rcases Nat.lt_or_ge i ys.length with h|h
 ·obtain⟨bA,oA,rfl,hA⟩:=hr.at_ (by omega:0<ys.length);have hy:=aKb hu i;refine aB;refine cG (X:=Nat) (fun k=>k≤8) (fun k=>[(0,.slice (some ⟨bA,oA,none⟩) ys.length c),(3,.int .u32 (aP9 (uO ys 4294967295 i) (ys.getD i 0).toNat k:Nat)),(4,.int .i64 i),(5,.int .i64 k)]) (fun _=>[]) (fun k=>8-k) 0 aE ⟨rfl,rfl,rfl,rfl,trivial⟩ (.nil _) ?_;intro k hk8;have hrl:=bEq (ys.getD i 0).toNat hk k;rcases Nat.lt_or_ge k 8 with hlt|hge
  ·have htm:(ys.getD i 0/2^k).tmod 2=1↔(ys.getD i 0).toNat/2^k%2=1:=by obtain⟨y,hyy⟩:∃y:Nat,ys.getD i 0=y:=⟨(ys.getD i 0).toNat,oo⟩;rw[hyy,show (y:Int)/2^k=((y/2^k:Nat):Int) by push_cast;rfl,Int.toNat_natCast];generalize y/2^k=q;rw[Int.tmod_eq_emod_of_nonneg oo];omega
   have hrs:aP9 (uO ys 4294967295 i) (ys.getD i 0).toNat (k+1)=(aP9 (uO ys 4294967295 i) (ys.getD i 0).toNat k/2) ^^^ (if (aP9 (uO ys 4294967295 i) (ys.getD i 0).toNat k%2=1)↔((ys.getD i 0).toNat/2^k%2=1)then 0 else 3988292384):=rfl;generalize aP9 (uO ys 4294967295 i) (ys.getD i 0).toNat k=q at *;have hxx:bits .xor .u32 ((q:Int)/2) 3988292384=((q/2 ^^^ 3988292384:Nat):Int):=u32_xor_nat (q/2) 3988292384 oo oo;have hq2:(q:Int)%2=1↔q%2=1:=oo;refine aB
   ·rename_i hne;rw[htm,hq2]at hne;rw[if_neg hne]at hrs;refine aR (k+1) (by show k+1≤8;omega) (by show 8-(k+1)<8-k;omega) ⟨rfl,?_,rfl,by simp[aI],trivial⟩ (.nil _);rw[hrs,hxx];rfl
   ·rename_i hne;rw[htm,hq2]at hne;rw[if_pos (Decidable.of_not_not hne),Nat.xor_zero]at hrs;refine aR (k+1) (by show k+1≤8;omega) (by show 8-(k+1)<8-k;omega) ⟨rfl,?_,rfl,by simp[aI],trivial⟩ (.nil _);rw[hrs];rfl
  ·obtain rfl:k=8:=oo;refine aB;exact aR (i+1) (by show i+1≤_;omega) (by show _-(i+1)<_-i;omega) ⟨rfl,by rw[bGl _ _ oo];rfl,by simp[aI],trivial⟩ (.nil _)
 ·obtain rfl:i=ys.length:=oo;have hx:=bH6 hk;refine aB;refine aM rfl rfl (.nil _) ⟨?_,rfl⟩;unfold qE;rw[hx];congr 1;omega
theorem bDf(A:Option Addr)(c:Nat)(ys:List Int)(w:World)(hr:bP w (bB []) A ys.length c 1 (aD .u8 ys))(hu:dL ys)(hm:ys.length<1000000000):
  aF prog 90 [.slice A ys.length c] [] w (fun v S'=>∃A' c',v=.slice A' (kI ys).length c'∧S'=[.row (.slice A' (kI ys).length c') 5 1 (kI ys).length (aD .u8 (kI ys))]):=by
 have hsl:=aO4 hu;have hbl:=eL (qE ys) 4;refine aJ func90 rfl ntmps90 rfl ⟨aE,.nil⟩ (fun n=>?_);simp only[aG];refine bI;refine bU rfl rfl rfl (fun w hw=>bGr A c ys w ⟨hr.h.go hw (aC.nil _)⟩ hu hm) ?_;refine bI;refine dH (e:=5) (size:=1) ?_;refine bI;rename_i A0 c0;refine cG (X:=Nat×Option Addr×Nat) (fun q=>q.1≤4) (fun q=>[(3,.int .u32 (qE ys/256^q.1:Nat)),(4,.slice q.2.1 (ys++(cX (qE ys) 4).take q.1).length q.2.2),(5,.int .i64 q.1)])
  (fun q=>[.row (.slice q.2.1 (ys++(cX (qE ys) 4).take q.1).length q.2.2) 5 1 (ys++(cX (qE ys) 4).take q.1).length (aD .u8 (ys++(cX (qE ys) 4).take q.1))]) (fun q=>4-q.1) (0,A0,c0) aE ⟨by simp[aI],by simp[aI],rfl,trivial⟩ (by simp only[List.take_zero,List.append_nil];exact aA.au) ?_
 rintro⟨i,A1,c1⟩ hi;simp only at hi ⊢;have htl:(ys++(cX (qE ys) 4).take i).length=ys.length+i:=by rw[List.length_append,List.length_take];omega
 have hdv:qE ys/256^i≤qE ys:=Nat.div_le_self _ _;have hdn:qE ys/256^(i+1)=qE ys/256^i/256:=by rw[Nat.pow_succ,Nat.div_div_eq_div_mul]
 rcases Nat.lt_or_ge i 4 with h|h
 ·have hat:=aQv (qE ys) 4 i h;generalize qE ys/256^i=q at *;refine aB;rename_i A2 c2;rw[List.append_assoc,show (q:Int)%256=((q%256:Nat):Int) by push_cast;rfl,← hat];exact aR (i+1,A2,c2) (by show i+1≤_;omega) (by show _-(i+1)<_-i;omega) ⟨by simp only[hdn];rfl,rfl,by simp[aI],trivial⟩ aA.au
 ·obtain rfl:i=4:=oo;rw[List.take_of_length_le (by omega:(cX (qE ys) 4).length≤4)];unfold kI;refine aB;exact aM rfl rfl aA.au ⟨_,_,rfl,rfl⟩
theorem aP4(x size:Nat)(w:World)(hx:x<18446744073709551616)(hs:size≤8):
  aF prog 89 [.int .u64 x,.int .i64 size] [] w (fun v S'=>∃A' c',v=.slice A' (cX x size).length c'∧S'=[.row (.slice A' (cX x size).length c') 5 1 (cX x size).length (aD .u8 (cX x size))]):=by
 have hbl:=eL x size;refine aJ func89 rfl ntmps89 rfl ⟨aE,.nil⟩ (fun n=>?_);simp only[aG];refine dH (e:=5) (size:=1) ?_;refine bI;refine cG (X:=Nat×Option Addr×Nat) (fun q=>q.1≤size) (fun q=>[(1,.int .i64 size),(5,.slice q.2.1 ((cX x size).take q.1).length q.2.2),(6,.int .u64 (x/256^q.1:Nat)),(7,.int .i64 q.1)])
  (fun q=>[.row (.slice q.2.1 ((cX x size).take q.1).length q.2.2) 5 1 ((cX x size).take q.1).length (aD .u8 ((cX x size).take q.1))]) (fun q=>size-q.1) (0,none,0) aE ⟨rfl,rfl,by simp[aI],rfl,trivial⟩ (aA.refl _) ?_
 rintro⟨i,A1,c1⟩ hi;simp only at hi ⊢;have htl:((cX x size).take i).length=i:=by rw[List.length_take];omega
 have hdv:x/256^i≤x:=Nat.div_le_self _ _;have hdn:x/256^(i+1)=x/256^i/256:=by rw[Nat.pow_succ,Nat.div_div_eq_div_mul]
 rcases Nat.lt_or_ge i size with h|h
 ·have hat:=aQv x size i h;generalize x/256^i=q at *;refine aB;rename_i A2 c2;rw[show (q:Int)%256=((q%256:Nat):Int) by push_cast;rfl,← hat];exact aR (i+1,A2,c2) (by show i+1≤_;omega) (by show _-(i+1)<_-i;omega) ⟨rfl,rfl,by simp only[hdn];rfl,by simp[aI],trivial⟩ aA.au
 ·obtain rfl:i=size:=oo;rw[List.take_of_length_le (by omega:(cX x i).length≤i)];refine aB;exact aM rfl rfl aA.au ⟨_,_,rfl,rfl⟩
theorem aBk.one{ys:List Int}{i:Nat}{a b:Int}(h:aBk ys i a)(g:aBk ys i b):a=b:=by rcases h with⟨rfl,h1⟩ | ⟨h1,⟨rfl,h2⟩ | ⟨rfl,h2⟩⟩<;>rcases g with⟨rfl,g1⟩ | ⟨g1,⟨rfl,g2⟩ | ⟨rfl,g2⟩⟩<;>first|rfl|contradiction
theorem rJ.one{ys:List Int}{a b:Int}(h:rJ ys a)(g:rJ ys b):a=b:=by
 rcases h with⟨h1,h2⟩ | ⟨h1,i,hi,h2,h3,h4⟩ | ⟨h1,h2,h3⟩<;>rcases g with⟨g1,g2⟩ | ⟨g1,k,hk,g2,g3,g4⟩ | ⟨g1,g2,g3⟩
 ·rw[← h2,g2]
 ·omega
 ·omega
 ·omega
 ·have e:i=k:=by
   rcases Nat.lt_trichotomy i k with e|e|e
   ·obtain⟨z,hz⟩:=g4 i e;exact absurd hz (h3 z)
   ·exact e
   ·obtain⟨z,hz⟩:=h4 k e;exact absurd hz (g3 z)
  subst e;exact h2.one g2
 ·obtain⟨z,hz⟩:=g3 i hi;exact absurd hz (h3 z)
 ·omega
 ·obtain⟨z,hz⟩:=h3 k hk;exact absurd hz (g3 z)
 ·rw[h2,g2]
end Go.Proofs.YtbhchphfmhmabaaGreat
namespace Go.Proofs.YtbhchphfmhmabaaGreat
open Go.RowKit _root_.Go.Proofs.Tryz
section
variable {N:Nat} {ds:List Deferred} {w0:World} {W:Nat→Prop} {σ:List (Nat×Value)} {H R:List HE} {q:Act→World→Prop}
theorem bEo{A:Option Addr}{m c e s:Nat}{xs:List Value}(hh:aP H (.row (.slice A m c) e s m xs) R)(h:m≤c∧c≤maxLen→J N ds w0 W σ H q):J N ds w0 W σ H q:=by
 intro a w ha hw;have h1:w.ownsRow 0 e s (.slice A m c) m xs:=hw.own.holds _ (hh.perm.mem_iff.2 (List.mem_cons_self ..));refine h ?_ a w ha hw;obtain⟨hx,hr⟩:=h1;rcases hr with⟨he,hm⟩ | ⟨g,cap,cur,he,e1,e2,e3,e4,e5,e6⟩
 ·injection he with f1 f2 f3;subst f3;exact⟨oo,Nat.zero_le _⟩
 ·injection he with f1 f2 f3;subst f3;exact⟨e3,e4⟩
end
instance (u:Value)(r:List Value)(q:Nat)(v:Value)[h:dG r q v]:dG (u::r) (1+q) v:=⟨by rw[Nat.add_comm];simpa using h.h⟩
instance (u:Value)(r:List Value)(q:Nat)(v:Value)(o:List Value)[h:kF r q v o]:kF (u::r) (1+q) v (u::o):=⟨by obtain⟨h1,h2⟩:=h.h;rw[Nat.add_comm];simp[h1];omega⟩
instance:rO prog 3 1:=⟨Tryz.t3,by kernel_rfl,by kernel_rfl⟩
section
variable {P:Program} (w:World)
end
instance (priority:=60) {P:Program}{w0:World}{W:Nat→Prop}{H:List HE}(x y:Operand)(t e b q m c sz bs j r r':Nat)(a:Int)(z:Value)(k:IntKind)[hu:aN P t (.slice e)][hI:bF P e sz bs z][ha:vP a j][hm:rL j sz r][hr:nG q r r']:LV P w0 W H (.indexAddr t x y) [.slice (some ⟨b,q,none⟩) m c,.int k a] (.pointer (some ⟨b,r',none⟩)) (j<m):=by have h0:LV P w0 W H (.indexAddr t x y) [.slice (some ⟨b,q,none⟩) m c,.int k (j:Int)] (.pointer (some ⟨b,r',none⟩)) (j<m):=inferInstance;rw[ha.h];exact h0
section
variable {F:Fence} {n:Nat} {P:Program} {N:Nat} {ds:List Deferred} {w0:World} {W:Nat→Prop} {σ:List (Nat×Value)} {H R:List HE} {Q:Exit→Act→World→Prop} {K:Act→World→Prop}
variable {d:Nat} {ty:TypeId} {pos:String} {aft:Array Edge} {gd:Option (Nat×Bool)} {o:Oper} {ops:Array Oper} {rest:List Oper}
instance (priority:=50) (fn:Fn)(first:Array Operand)(vs:List Value):MS P w0 W H (.makeFunc fn first #[]) vs (.func fn vs.toArray #[]) True:=⟨fun _ {_ _ _ _ σ _ _ _ _ _ _ _} _ h1 h2 h3=>aZ4 (xs:=vs.toArray) (ys:=#[]) (fun a ha=>⟨by
 have h1':vals σ first.toList=some vs:=by simpa [Op.operands] using h1
 have:=bC7 h1' a ha;rw[← this];apply Array.ext';simp,aE⟩) h2 h3⟩
end
theorem aC.push9{H S R:List HE}(x:HE)(h:aC H S R):aC (x::H) S (x::R):=by
 induction h with
 | nil H=>exact .nil _
 | cons hh _ ih=>exact .cons (.there x hh) ih
theorem aC.whole1:∀T:List HE,aC T T []
 | []=>.nil _
 | x::T=>.cons (.here _ _) (aC.whole1 T)
instance (priority:=6) (T:List HE):aBj T T:=⟨aA.refl T⟩
instance (priority:=3) (y:HE)(T H:List HE)[h:aBj T H]:aBj T (y::H):=⟨h.h.skip y⟩
instance (priority:=6) (T:List HE):uI T T []:=⟨aC.whole1 T⟩
instance (priority:=4) (y:HE)(T H R:List HE)[h:uI H T R]:uI (y::H) T (y::R):=⟨h.h.push9 y⟩
section
variable {P:Program} {w0:World} {W:Nat→Prop} {H:List HE}
theorem bD1(t e m b q sz l:Nat)(a:Int)(k':IntKind)(x lo:Operand)[hu:aN P t (.array m e)][hI:rO P e sz][ha:vP a l]:MS P w0 W H (.slice t x (some lo) none none) [.pointer (some ⟨b,q,none⟩),.int k' a] (.slice (if m=l then some ⟨b,q,none⟩else some ⟨b,q+l*sz,none⟩) (m-l) (m-l)) (l≤m) :=
 ⟨fun hc _ _ _ _ _ _ _ _ _ _ _ _ _ h1 h2 h3=>dW aE rfl h2 (fun a w hw _=>by obtain⟨p1,p2⟩:=dP h1;have g1:=hu.h;obtain⟨ii,g2,g3⟩:=hI.h;have e:=ha.h;subst e;simp only[execOp,Option.map_some,Option.map_none];rw[hw.eval p1,show a.eval lo=_ from hw.eval p2];simp[Instr.sliceAt,Instr.sliceBounds,run_sliceBound,run_underlying g1,sizeOf,typeInfo,g2,Instr.sureAddr,hc,g3,Addr.add];split<;>simp_all) h3⟩
instance (priority:=60) frmTo(t e m b q sz h:Nat)(a:Int)(k':IntKind)(x hi:Operand)[hu:aN P t (.array m e)][hI:rO P e sz][ha:vP a h]:MS P w0 W H (.slice t x none (some hi) none) [.pointer (some ⟨b,q,none⟩),.int k' a] (.slice (some ⟨b,q,none⟩) h m) (h≤m) :=
 ⟨fun hc _ _ _ _ _ _ _ _ _ _ _ _ _ h1 h2 h3=>dW aE rfl h2 (fun a w hw _=>by obtain⟨p1,p2⟩:=dP h1;have g1:=hu.h;obtain⟨ii,g2,g3⟩:=hI.h;have e:=ha.h;subst e;simp only[execOp,Option.map_some,Option.map_none];rw[hw.eval p1,show a.eval hi=_ from hw.eval p2];simp[Instr.sliceAt,Instr.sliceBounds,run_sliceBound,run_underlying g1,sizeOf,typeInfo,g2,Instr.sureAddr,hc];intro _;simp[Addr.add]) h3⟩
instance frmNeq(t u:TypeId)(x y:Operand)(xs ys:List Int):MS P w0 W H (.binOp .neq t x y u) [.string (strOfNums xs),.string (strOfNums ys)] (.bool (!(xs==ys))) (dL xs∧dL ys) :=
 ⟨fun hc _ _ _ _ _ _ _ _ _ _ _ _ _ h1 h2 h3=>dW aE rfl h2 (fun a w ha hw=>by obtain⟨p,q⟩:=dP h1;simp[execOp,ha.eval p,ha.eval q,eqGuard,binOp_string_neq,bEt hc.1 hc.2]) h3⟩
end
instance (priority:=60) frmAt{P:Program}{w0:World}{W:Nat→Prop}{H:List HE}(x y:Operand)(t e b q m c sz bs j r r':Nat)(a:Int)(z:Value)(k:IntKind)[hu:aN P t (.slice e)][hI:bF P e sz bs z][ha:vP a j][hm:rL j sz r][hr:nG q r r']:MS P w0 W H (.indexAddr t x y) [.slice (some ⟨b,q,none⟩) m c,.int k a] (.pointer (some ⟨b,r',none⟩)) (j<m):=by have h0:MS P w0 W H (.indexAddr t x y) [.slice (some ⟨b,q,none⟩) m c,.int k (j:Int)] (.pointer (some ⟨b,r',none⟩)) (j<m):=inferInstance;rw[ha.h];exact h0
instance szI32:rO prog 21 1:=⟨Tryz.t21,by kernel_rfl,by kernel_rfl⟩
instance (priority:=3000) msU32{w0:World}{W:Nat→Prop}{H:List HE}(x:Operand)(a:Int):MS prog w0 W H (.convert 21 23 x) [.int .i32 a] (.int .u32 ((qG a:Nat):Int)) True :=
 mI (v:=.int .u32 (IntKind.u32.wrap a)) inferInstance trivial (congrArg (Value.int .u32) (by rw[IntKind.wrap_u32];unfold qG;omega))
instance (priority:=3000) msU64{w0:World}{W:Nat→Prop}{H:List HE}(x:Operand)(a:Int):MS prog w0 W H (.convert 23 76 x) [.int .u32 ((qG a:Nat):Int)] (.int .u64 ((qG a:Nat):Int)) True :=
 cD (v:=.int .u64 ((qG a:Nat):Int)) inferInstance (by show (0:Int)≤_∧_≤(18446744073709551615:Int);have:=zW a;omega) rfl
theorem bGd{k:Int}(h:¬aD1 k<0):(k=1∨k=6)∨(k=2∨k=3∨k=7)∨k=4∨k=5:=by have:=bD4 h;omega
attribute [local irreducible] OJ J bM Code.wpIn wpListIn Oper.wpIn bodyPost CallsIn aF
theorem bF8(w:World):aF prog 128 [] [] w (fun v S'=>v=.agg #[.int .i64 0,.int .i64 3,.int .i64 2,.int .i64 2,.int .i64 0,.int .i64 1,.int .i64 3,.int .i64 2]∧S'=[]):=by refine aJ func128 rfl ntmps128 rfl ⟨aE,.nil⟩ (fun n=>?_);simp only[aG];refine aB;refine bK;exact⟨rfl,rfl⟩
instance counts_cv:CV prog 128 [] (.agg [.int .i64 0,.int .i64 3,.int .i64 2,.int .i64 2,.int .i64 0,.int .i64 1,.int .i64 3,.int .i64 2].toArray) True:=⟨fun _ w=>bF8 w⟩
theorem bE8(k:Int):CV prog 85 [.int .i64 k] (.int .i64 (aD1 k)) True:=⟨fun _ w=>by
 refine aJ func85 rfl ntmps85 rfl ⟨aE,.nil⟩ (fun n=>?_);simp only[aG];by_cases hn:aD1 k<0
 ·have h1:k<1∨7<k:=by
   unfold aD1 at hn;repeat' split at hn
   all_goals omega
  have e:aD1 k = -1:=by have:=aTf k;omega
  rw[e];refine aB;all_goals first
   | exact aM rfl rfl (.nil _) ⟨rfl,rfl⟩
   | (exfalso;omega)
 ·rcases bGd hn with(rfl|rfl)|(rfl|rfl|rfl)|rfl|rfl;all_goals
   refine aB;exact aM rfl rfl (.nil _) ⟨rfl,rfl⟩⟩
theorem bE9(k:Int):CV prog 88 [.int .i64 k] (.int .i64 (aD1 k)) True:=⟨fun _ w=>by
 refine aJ func88 rfl ntmps88 rfl ⟨aE,.nil⟩ (fun n=>?_);simp only[aG];by_cases hk:(k=1∨k=6)∨(k=2∨k=3∨k=7)∨k=4∨k=5
 ·rcases hk with(rfl|rfl)|(rfl|rfl|rfl)|rfl|rfl;all_goals
   refine aB;exact aM rfl rfl (.nil _) ⟨rfl,rfl⟩
 ·have e:aD1 k = -1:=by
   unfold aD1;repeat' split
   all_goals omega
  have iE:∀(j:Int) (_:1≤j∧j≤7) w0 W H t u a b,MS prog w0 W H (.binOp .eql t a b u) [.int .i64 k,.int .i64 j] (.bool false) True:=fun j hj _ _ _ _ _ _ _=>cD inferInstance trivial (congrArg Value.bool (by rw[beq_eq_false_iff_ne];omega));have i1:=iE 1 od;have i2:=iE 2 od;have i3:=iE 3 od;have i4:=iE 4 od;have i5:=iE 5 od;have i6:=iE 6 od;have i7:=iE 7 od;rw[e];refine aB;exact aM rfl rfl (.nil _) ⟨rfl,rfl⟩⟩
def bDq(k:Int):Int:=if aD1 k<0 then -1 else 12+4*aD1 k
theorem bGy(k:Int):CV prog 137 [.int .i64 k] (.int .i64 (bDq k)) True:=⟨fun _ w=>by
 have iN:=bE8 k;have hi:=aTf k;refine aJ func137 rfl ntmps137 rfl ⟨aE,.nil⟩ (fun n=>?_);simp only[aG];unfold bDq;generalize aD1 k=x at *;refine aB
 ·rw[if_pos oo];exact aM rfl rfl (.nil _) ⟨rfl,rfl⟩
 ·rw[if_neg oo];exact aM rfl rfl (.nil _) ⟨by rw[show (8:Int)+4*x+4=12+4*x by omega],rfl⟩⟩
theorem bGq(k:Int):CV prog 91 [.int .i64 k] (.int .i64 (12+4*aD1 k)) True:=⟨fun _ w=>by have iN:=bE9 k;have hi:=aTf k;refine aJ func91 rfl ntmps91 rfl ⟨aE,.nil⟩ (fun n=>?_);simp only[aG];refine aB;exact aM rfl rfl (.nil _) ⟨rfl,rfl⟩⟩
def FpR(f:lM)(v:Value)(S':List HE):Prop:=∃A c,v=.tuple #[.slice A (aDn f).length c,.int .i64 (aGl f)]∧S'=[.row (.slice A (aDn f).length c) 5 1 (aDn f).length (aD .u8 (aDn f))]
theorem bDo{f:lM}(h:aGl f≠0):aDn f=[]:=if_neg h
theorem bG6(f:lM)(hf:f.ok)(w:World):aF prog 45 [.agg (dU f).toArray] [] w (FpR f):=by
 have iN:=bE8 f.kind;have hnu:=aTf f.kind;refine aJ func45 rfl ntmps45 rfl ⟨aE,.nil⟩ (fun n=>?_);simp only[aG];by_cases hn:aD1 f.kind<0
 ·have e:aGl f=13:=if_pos hn;have e2:=bDo (f:=f) (by rw[e];decide);unfold FpR;rw[e,e2];have iA:∀w0 W H t u a b,MS prog w0 W H (.binOp .lss t a b u) [.int .i64 (aD1 f.kind),.int .i64 0] (.bool true) True:=fun _ _ _ _ _ _ _=>cD inferInstance trivial (congrArg Value.bool (decide_eq_true oo));refine dH (e:=5) (size:=1) ?_;refine aB;exact cY (S':=[.row (.slice none 0 0) 5 1 0 []]) rfl rfl rfl aA.au ⟨none,0,rfl,rfl⟩
 have hc0:=bBx (f:=f);have hq:aD1 f.kind=0∨aD1 f.kind=1∨aD1 f.kind=2∨aD1 f.kind=3:=oo;have hkd:=bD4 hn;obtain⟨k,s,t,a,b,c⟩:=f;obtain⟨-,hs,ht,ha,hb,hc⟩:=hf;have hs:0≤s∧s≤65535:=hs;have ht:0≤t∧t≤4294967295:=ht;have ha : -2147483648≤a∧a≤2147483647:=ha;have hb : -2147483648≤b∧b≤2147483647:=hb;have hc : -2147483648≤c∧c≤2147483647:=hc;dsimp only at iN hnu hn hq hkd;by_cases hz:aGl ⟨k,s,t,a,b,c⟩=0
 rotate_left
 ·have e2:=bDo hz;have e:aGl ⟨k,s,t,a,b,c⟩=1∧((aD1 k<3∧c≠0)∨(aD1 k<2∧b≠0)∨(aD1 k<1∧a≠0)):=by
   unfold aGl at hz ⊢;dsimp only at hz ⊢;rw[if_neg hn]at hz ⊢;by_cases hh:(aD1 k<3∧c≠0)∨(aD1 k<2∧b≠0)∨(aD1 k<1∧a≠0)
   ·exact⟨if_pos hh,hh⟩
   ·rw[if_neg hh]at hz;exact absurd rfl hz
  obtain⟨e,hh⟩:=e;unfold FpR;rw[e,e2];refine dH (e:=5) (size:=1) ?_;rcases hq with q|q|q|q;all_goals rw[q]at iN hh
  ·have iSl:∀w0 W H b x lo,MS prog w0 W H (.slice 166 x (some lo) none none) [.pointer (some ⟨b,0,none⟩),.int .i64 0] (.slice (some ⟨b,0,none⟩) 3 3) True:=fun _ _ _ _ _ _=>cD (bD1 _ _ _ _ _ _ 0 _ _ _ _) od rfl;refine aB;refine aBw 4 ?_;refine aB;all_goals first
    | exact cY (S':=[.row (.slice none 0 0) 5 1 0 []]) rfl rfl rfl aA.au ⟨none,0,rfl,rfl⟩
    | (exfalso;simp_all;done)
  ·have iSl:∀w0 W H b x lo,MS prog w0 W H (.slice 166 x (some lo) none none) [.pointer (some ⟨b,0,none⟩),.int .i64 1] (.slice (some ⟨b,1,none⟩) 2 2) True:=fun _ _ _ _ _ _=>cD (bD1 _ _ _ _ _ _ 1 _ _ _ _) od rfl;refine aB;refine aBw 3 ?_;refine aB;all_goals first
    | exact cY (S':=[.row (.slice none 0 0) 5 1 0 []]) rfl rfl rfl aA.au ⟨none,0,rfl,rfl⟩
    | (exfalso;simp_all;done)
  ·have iSl:∀w0 W H b x lo,MS prog w0 W H (.slice 166 x (some lo) none none) [.pointer (some ⟨b,0,none⟩),.int .i64 2] (.slice (some ⟨b,2,none⟩) 1 1) True:=fun _ _ _ _ _ _=>cD (bD1 _ _ _ _ _ _ 2 _ _ _ _) od rfl;refine aB;refine aBw 2 ?_;refine aB;all_goals first
    | exact cY (S':=[.row (.slice none 0 0) 5 1 0 []]) rfl rfl rfl aA.au ⟨none,0,rfl,rfl⟩
    | (exfalso;simp_all;done)
  ·exfalso;omega
 ·have hzz:=hz;unfold aGl at hzz;dsimp only at hzz;rw[if_neg hn]at hzz;have hh:¬((aD1 k<3∧c≠0)∨(aD1 k<2∧b≠0)∨(aD1 k<1∧a≠0)):=fun q=>by rw[if_pos q]at hzz;exact absurd hzz od
  obtain⟨s,rfl⟩:=Int.eq_ofNat_of_zero_le hs.1;obtain⟨t,rfl⟩:=Int.eq_ofNat_of_zero_le ht.1;have hB:aDn ⟨k,(s:Nat),(t:Nat),a,b,c⟩=kI (aL9 ⟨k,(s:Nat),(t:Nat),a,b,c⟩):=if_pos hz;have hbu:=bDw (f:=⟨k,(s:Nat),(t:Nat),a,b,c⟩) hn;have hbl:(aL9 ⟨k,(s:Nat),(t:Nat),a,b,c⟩).length+4=aFb k:=bDv ⟨k,(s:Nat),(t:Nat),a,b,c⟩ hn;have hsz:=(aP6 hn).2.1;have hbd:aL9 ⟨k,(s:Nat),(t:Nat),a,b,c⟩=[126,k]++cX s 2++cX t 4++([a,b,c].take (aD1 k).toNat).flatMap fun x=>cX (qG x) 4:=by unfold aL9 aUb;dsimp only;rw[Int.toNat_natCast,Int.toNat_natCast,List.append_assoc ([126,k]++cX s 2)];rfl
  unfold FpR;rw[hz,hB];generalize aL9 ⟨k,(s:Nat),(t:Nat),a,b,c⟩=bd at *;have l1:=eL s 2;have l2:=eL t 4;have l3:=eL (qG a) 4;have l4:=eL (qG b) 4;have l5:=eL (qG c) 4;have hu1:=zW a;have hu2:=zW b;have hu3:=zW c;have ik:∀(w0:World) (W:Nat→Prop) (H:List HE) (x:Operand),MS prog w0 W H (.convert 3 5 x) [.int .i64 k] (.int .u8 k) True:=fun _ _ _ _=>cD inferInstance (by show (0:Int)≤k∧k≤(255:Int);omega) rfl;rcases hq with q|q|q|q
  ·have hc0:c=0:=oo;have hb0:b=0:=oo;have ha0:a=0:=oo;subst hc0 hb0 ha0;rw[q]at iN hbd;have iSl:∀w0 W H b x lo,MS prog w0 W H (.slice 166 x (some lo) none none) [.pointer (some ⟨b,0,none⟩),.int .i64 0] (.slice (some ⟨b,0,none⟩) 3 3) True:=fun _ _ _ _ _ _=>cD (bD1 _ _ _ _ _ _ 0 _ _ _ _) od rfl;refine aB;refine aBw 4 ?_;refine aB;refine lf rfl rfl rfl (S:=[]) (fun w hw ho=>vW _ _ [126,k] s 2 w ⟨Ro.row hw (aC.nil _) (by refine cF)⟩ oo od (by show 2<1000000000;decide)) ?_;rintro v S' ⟨A2,c2,rfl,rfl⟩;refine aB;refine lf rfl rfl rfl (S:=[]) (fun w hw ho=>vW A2 c2 ([126,k]++cX s 2) t 4 w ⟨Ro.row hw (aC.nil _) (by refine cF)⟩ oo od (by simp only[List.length_append,List.length_cons,List.length_nil];omega)) ?_;rintro v S' ⟨A3,c3,rfl,rfl⟩;refine aB;refine aBw 1 ?_;refine aB;have e:[126,k]++cX s 2++cX t 4=bd:=by rw[hbd];simp
   rw[e];refine lf rfl rfl rfl (S:=[]) (fun w hw ho=>aJl A3 c3 bd w ⟨Ro.row hw (aC.nil _) (by refine cF)⟩ hbu oo) ?_;rintro v S' ⟨A9,c9,rfl,rfl⟩;refine aB;exact cY rfl rfl rfl aA.au ⟨_,_,rfl,rfl⟩
  ·have hc0:c=0:=oo;have hb0:b=0:=oo;subst hc0 hb0;rw[q]at iN hbd;have iSl:∀w0 W H b x lo,MS prog w0 W H (.slice 166 x (some lo) none none) [.pointer (some ⟨b,0,none⟩),.int .i64 1] (.slice (some ⟨b,1,none⟩) 2 2) True:=fun _ _ _ _ _ _=>cD (bD1 _ _ _ _ _ _ 1 _ _ _ _) od rfl;refine aB;refine aBw 3 ?_;refine aB;refine lf rfl rfl rfl (S:=[]) (fun w hw ho=>vW _ _ [126,k] s 2 w ⟨Ro.row hw (aC.nil _) (by refine cF)⟩ oo od (by show 2<1000000000;decide)) ?_;rintro v S' ⟨A2,c2,rfl,rfl⟩;refine aB;refine lf rfl rfl rfl (S:=[]) (fun w hw ho=>vW A2 c2 ([126,k]++cX s 2) t 4 w ⟨Ro.row hw (aC.nil _) (by refine cF)⟩ oo od (by simp only[List.length_append,List.length_cons,List.length_nil];omega)) ?_;rintro v S' ⟨A3,c3,rfl,rfl⟩;refine aB;refine aBw 2 ?_;refine aB;refine lf rfl rfl rfl (S:=[]) (fun w hw ho=>vW A3 c3 ([126,k]++cX s 2++cX t 4) (qG a) 4 w ⟨Ro.row hw (aC.nil _) (by refine cF)⟩ oo od (by simp only[List.length_append,List.length_cons,List.length_nil];omega)) ?_;rintro v S' ⟨A4,c4,rfl,rfl⟩;refine aB;have e:[126,k]++cX s 2++cX t 4++cX (qG a) 4=bd:=by rw[hbd];simp
   rw[e];refine lf rfl rfl rfl (S:=[]) (fun w hw ho=>aJl A4 c4 bd w ⟨Ro.row hw (aC.nil _) (by refine cF)⟩ hbu oo) ?_;rintro v S' ⟨A9,c9,rfl,rfl⟩;refine aB;exact cY rfl rfl rfl aA.au ⟨_,_,rfl,rfl⟩
  ·have hc0:c=0:=oo;subst hc0;rw[q]at iN hbd;have iSl:∀w0 W H b x lo,MS prog w0 W H (.slice 166 x (some lo) none none) [.pointer (some ⟨b,0,none⟩),.int .i64 2] (.slice (some ⟨b,2,none⟩) 1 1) True:=fun _ _ _ _ _ _=>cD (bD1 _ _ _ _ _ _ 2 _ _ _ _) od rfl;refine aB;refine aBw 2 ?_;refine aB;refine lf rfl rfl rfl (S:=[]) (fun w hw ho=>vW _ _ [126,k] s 2 w ⟨Ro.row hw (aC.nil _) (by refine cF)⟩ oo od (by show 2<1000000000;decide)) ?_;rintro v S' ⟨A2,c2,rfl,rfl⟩;refine aB;refine lf rfl rfl rfl (S:=[]) (fun w hw ho=>vW A2 c2 ([126,k]++cX s 2) t 4 w ⟨Ro.row hw (aC.nil _) (by refine cF)⟩ oo od (by simp only[List.length_append,List.length_cons,List.length_nil];omega)) ?_;rintro v S' ⟨A3,c3,rfl,rfl⟩;refine aB;refine aBw 3 ?_;refine aB;refine lf rfl rfl rfl (S:=[]) (fun w hw ho=>vW A3 c3 ([126,k]++cX s 2++cX t 4) (qG a) 4 w ⟨Ro.row hw (aC.nil _) (by refine cF)⟩ oo od (by simp only[List.length_append,List.length_cons,List.length_nil];omega)) ?_;rintro v S' ⟨A4,c4,rfl,rfl⟩;refine aB;refine lf rfl rfl rfl (S:=[]) (fun w hw ho=>vW A4 c4 ([126,k]++cX s 2++cX t 4++cX (qG a) 4) (qG b) 4 w ⟨Ro.row hw (aC.nil _) (by refine cF)⟩ oo od (by simp only[List.length_append,List.length_cons,List.length_nil];omega)) ?_;rintro v S' ⟨A5,c5,rfl,rfl⟩;refine aB;have e:[126,k]++cX s 2++cX t 4++cX (qG a) 4++cX (qG b) 4=bd:=by rw[hbd];simp
   rw[e];refine lf rfl rfl rfl (S:=[]) (fun w hw ho=>aJl A5 c5 bd w ⟨Ro.row hw (aC.nil _) (by refine cF)⟩ hbu oo) ?_;rintro v S' ⟨A9,c9,rfl,rfl⟩;refine aB;exact cY rfl rfl rfl aA.au ⟨_,_,rfl,rfl⟩
  ·rw[q]at iN hbd;have iSl:∀w0 W H b x lo,MS prog w0 W H (.slice 166 x (some lo) none none) [.pointer (some ⟨b,0,none⟩),.int .i64 3] (.slice (some ⟨b,0,none⟩) 0 0) True:=fun _ _ _ _ _ _=>cD (bD1 _ _ _ _ _ _ 3 _ _ _ _) od rfl;refine aB;refine aBw 1 ?_;refine aB;refine lf rfl rfl rfl (S:=[]) (fun w hw ho=>vW _ _ [126,k] s 2 w ⟨Ro.row hw (aC.nil _) (by refine cF)⟩ oo od (by show 2<1000000000;decide)) ?_;rintro v S' ⟨A2,c2,rfl,rfl⟩;refine aB;refine lf rfl rfl rfl (S:=[]) (fun w hw ho=>vW A2 c2 ([126,k]++cX s 2) t 4 w ⟨Ro.row hw (aC.nil _) (by refine cF)⟩ oo od (by simp only[List.length_append,List.length_cons,List.length_nil];omega)) ?_;rintro v S' ⟨A3,c3,rfl,rfl⟩;refine aB;refine aBw 4 ?_;refine aB;refine lf rfl rfl rfl (S:=[]) (fun w hw ho=>vW A3 c3 ([126,k]++cX s 2++cX t 4) (qG a) 4 w ⟨Ro.row hw (aC.nil _) (by refine cF)⟩ oo od (by simp only[List.length_append,List.length_cons,List.length_nil];omega)) ?_;rintro v S' ⟨A4,c4,rfl,rfl⟩;refine aB;refine lf rfl rfl rfl (S:=[]) (fun w hw ho=>vW A4 c4 ([126,k]++cX s 2++cX t 4++cX (qG a) 4) (qG b) 4 w ⟨Ro.row hw (aC.nil _) (by refine cF)⟩ oo od (by simp only[List.length_append,List.length_cons,List.length_nil];omega)) ?_;rintro v S' ⟨A5,c5,rfl,rfl⟩;refine aB;refine lf rfl rfl rfl (S:=[]) (fun w hw ho=>vW A5 c5 ([126,k]++cX s 2++cX t 4++cX (qG a) 4++cX (qG b) 4) (qG c) 4 w ⟨Ro.row hw (aC.nil _) (by refine cF)⟩ oo od (by simp only[List.length_append,List.length_cons,List.length_nil];omega)) ?_;rintro v S' ⟨A6,c6,rfl,rfl⟩;refine aB;have e:[126,k]++cX s 2++cX t 4++cX (qG a) 4++cX (qG b) 4++cX (qG c) 4=bd:=by rw[hbd];simp
   rw[e];refine lf rfl rfl rfl (S:=[]) (fun w hw ho=>aJl A6 c6 bd w ⟨Ro.row hw (aC.nil _) (by refine cF)⟩ hbu oo) ?_;rintro v S' ⟨A9,c9,rfl,rfl⟩;refine aB;exact cY rfl rfl rfl aA.au ⟨_,_,rfl,rfl⟩
def bE2:lM:=⟨0,0,0,0,0,0⟩
def bDb(b:List Int):lM:=if aE2 b=0 then aFm b else bE2
def bDa(b:List Int):Nat:=if aE2 b=0 then aFb (b.getD 1 0)else 0
def FiR(b:List Int)(v:Value)(S':List HE):Prop:=v=.tuple #[.agg (dU (bDb b)).toArray,.int .i64 (bDa b:Nat),.int .i64 (aE2 b)]∧S'=[]
theorem FiR.no{b:List Int}{c:Int}(h:aE2 b=c)(hc:c≠0):FiR b (.tuple #[.agg (dU bE2).toArray,.int .i64 0,.int .i64 c]) []:=by
 have h1:aE2 b≠0:=by rw[h];exact hc
 unfold FiR bDb bDa;rw[if_neg h1,if_neg h1,h];exact⟨rfl,rfl⟩
theorem FiR.yes{b:List Int}(h:aE2 b=0){f:lM}{n:Nat}(hf:aFm b=f)(hn:aFb (b.getD 1 0)=n):FiR b (.tuple #[.agg (dU f).toArray,.int .i64 n,.int .i64 0]) []:=by unfold FiR bDb bDa;rw[if_pos h,if_pos h,h,hf,hn];exact⟨rfl,rfl⟩
theorem bGv{ys:List Int}{a n:Nat}(h:a<ys.length):pD ys a (n+1)=ys.getD a 0::pD ys (a+1) n:=by unfold pD;rw[List.drop_eq_getElem_cons h,List.take_succ_cons,List.getD_eq_getElem?_getD,List.getElem?_eq_getElem h];rfl
theorem bGg{ys:List Int}{a n:Nat}(h:a<ys.length):dN ys a (n+1)=(ys.getD a 0).toNat+256*dN ys (a+1) n:=by unfold dN;rw[bGv h,nP]
theorem bGw(ys:List Int)(a i n:Nat):pD (ys.drop a) i n=pD ys (a+i) n:=by unfold pD;rw[List.drop_drop]
theorem bGf(ys:List Int)(a i n:Nat):dN (ys.drop a) i n=dN ys (a+i) n:=by unfold dN;rw[bGw]
theorem bGa(ys:List Int)(a i:Nat):(ys.drop a).getD i 0=ys.getD (a+i) 0:=by rw[List.getD_eq_getElem?_getD,List.getElem?_drop,← List.getD_eq_getElem?_getD]
theorem bB3(g:Nat)(A:Option Addr)(c n:Nat)(ys:List Int)(a:Int)(i size:Nat)(hi:a=i)(w:World)(hown:aZ [.blk g 34 [.slice A n c]] w)(hl:ys.length=n)(hr:bP w (bB [.blk g 34 [.slice A n c]]) A n c 1 (aD .u8 ys))(hu:dL ys)(hs:size≤8)(ha:i+size≤n)(hm:n<1000000000):
  aF prog 139 [.int .i64 a,.int .i64 size,.pointer (some ⟨g,0,none⟩)] [.blk g 34 [.slice A n c]] w (fun v S'=>v=.int .u64 (dN ys i size:Nat)∧S'=[.blk g 34 [.slice A n c]]):=by
 subst hi hl;refine aJ func139 rfl ntmps139 rfl hown (fun _=>?_);simp only[aG];refine aB;refine lf rfl rfl rfl (S:=[]) (fun w hw ho=>aQi A c ys i size w ⟨hr.h.go hw (aC.nil _)⟩ hu hs ha hm) ?_;rintro v S' ⟨rfl,rfl⟩;refine aB;exact aM rfl rfl aA.au ⟨rfl,rfl⟩
theorem bG0(A:Option Addr)(c n:Nat)(ys:List Int)(w:World)(hl:ys.length=n)(hr:bP w (bB []) A n c 1 (aD .u8 ys))(hu:dL ys)(hm:n<100000000):
  aF prog 100 [.slice A n c] [] w (FiR ys):=by
 subst hl;refine aJ func100 rfl ntmps100 rfl ⟨aE,.nil⟩ (fun _=>?_);simp only[aG];by_cases h0:ys.length=0
 ·have e:aE2 ys=5:=by unfold aE2;rw[if_pos h0]
  have iA:∀w0 W H t u a b,MS prog w0 W H (.binOp .eql t a b u) [.int .i64 (ys.length:Nat),.int .i64 0] (.bool true) True:=fun _ _ _ _ _ _ _=>cD inferInstance trivial (congrArg Value.bool (by rw[h0];rfl));refine aB;refine bK;exact FiR.no e od
 have iA:∀w0 W H t u a b,MS prog w0 W H (.binOp .eql t a b u) [.int .i64 (ys.length:Nat),.int .i64 0] (.bool false) True:=fun _ _ _ _ _ _ _=>cD inferInstance trivial (congrArg Value.bool (by rw[beq_eq_false_iff_ne];omega));obtain⟨bA,oA,rfl,hA⟩:=hr.at_ (by omega:0<ys.length);by_cases h1:ys.getD 0 0=126
 rotate_left
 ·have e:aE2 ys=3:=by unfold aE2;rw[if_neg h0,if_pos h1]
  have iB:∀w0 W H t u a b,MS prog w0 W H (.binOp .neq t a b u) [.int .u8 (ys.getD 0 0),.int .u8 126] (.bool true) True:=fun _ _ _ _ _ _ _=>cD inferInstance trivial (congrArg Value.bool (by simpa using h1));refine aB;refine bK;exact FiR.no e od
 have iB:∀w0 W H t u a b,MS prog w0 W H (.binOp .neq t a b u) [.int .u8 (ys.getD 0 0),.int .u8 126] (.bool false) True:=fun _ _ _ _ _ _ _=>cD inferInstance trivial (congrArg Value.bool (by simpa using h1));by_cases h2:ys.length=1
 ·have e:aE2 ys=5:=by unfold aE2;rw[if_neg h0,if_neg (Decidable.not_not.2 h1),if_pos h2]
  have iC:∀w0 W H t u a b,MS prog w0 W H (.binOp .eql t a b u) [.int .i64 (ys.length:Nat),.int .i64 1] (.bool true) True:=fun _ _ _ _ _ _ _=>cD inferInstance trivial (congrArg Value.bool (by rw[h2];rfl));refine aB;refine bK;exact FiR.no e od
 have iC:∀w0 W H t u a b,MS prog w0 W H (.binOp .eql t a b u) [.int .i64 (ys.length:Nat),.int .i64 1] (.bool false) True:=fun _ _ _ _ _ _ _=>cD inferInstance trivial (congrArg Value.bool (by rw[beq_eq_false_iff_ne];omega));have iS:=bGy (ys.getD 1 0);have hk:=aKb hu 1;by_cases h3:aD1 (ys.getD 1 0)<0
 ·have e:aE2 ys=13:=by unfold aE2;rw[if_neg h0,if_neg (Decidable.not_not.2 h1),if_neg h2,if_pos h3]
  have e2:bDq (ys.getD 1 0) = -1:=if_pos h3;rw[e2]at iS;refine aB;refine bK;exact FiR.no e od
 have e2:bDq (ys.getD 1 0)=((aFb (ys.getD 1 0):Nat):Int):=by rw[(aP6 h3).2.2];exact if_neg h3
 rw[e2]at iS;have hsz:=aP6 h3;have iD:∀w0 W H t u a b,MS prog w0 W H (.binOp .lss t a b u) [.int .i64 ((aFb (ys.getD 1 0):Nat):Int),.int .i64 0] (.bool false) True:=fun _ _ _ _ _ _ _=>cD inferInstance trivial (congrArg Value.bool (decide_eq_false oo));by_cases h4:ys.length<aFb (ys.getD 1 0)
 ·have e:aE2 ys=5:=by unfold aE2;rw[if_neg h0,if_neg (Decidable.not_not.2 h1),if_neg h2,if_neg h3,if_pos h4]
  have iE:∀w0 W H t u a b,MS prog w0 W H (.binOp .lss t a b u) [.int .i64 (ys.length:Nat),.int .i64 ((aFb (ys.getD 1 0):Nat):Int)] (.bool true) True:=fun _ _ _ _ _ _ _=>cD inferInstance trivial (congrArg Value.bool (decide_eq_true oo));refine aB;refine bK;exact FiR.no e od
 have iE:∀w0 W H t u a b,MS prog w0 W H (.binOp .lss t a b u) [.int .i64 (ys.length:Nat),.int .i64 ((aFb (ys.getD 1 0):Nat):Int)] (.bool false) True:=fun _ _ _ _ _ _ _=>cD inferInstance trivial (congrArg Value.bool (decide_eq_false oo));have hcl:ys.length≤c:=by obtain⟨_,_,e,q1,-⟩:=hr.h;injection e with _ _ e;omega
 have hfc:aE2 ys=if pM (ys.take (aFb (ys.getD 1 0)))then 0 else 4:=by unfold aE2;rw[if_neg h0,if_neg (Decidable.not_not.2 h1),if_neg h2,if_neg h3,if_neg h4]
 have hfn:∀q,aFb (ys.getD 1 0)=q→aFb (ys.getD 1 0)=q:=fun _ h=>h;have hnum:=aTf (ys.getD 1 0);have hle2:=sB hu (a:=2) (n:=2) oo;have hle4:=sB hu (a:=4) (n:=4) oo;obtain⟨sz,hszz⟩:∃sz,aFb (ys.getD 1 0)=sz:=⟨_,rfl⟩;rw[hszz]at iS iD iE hfc hsz h4;have htl:(ys.take sz).length=sz:=by rw[List.length_take];omega
 have hut:dL (ys.take sz):=fun x hx=>hu x (List.mem_of_mem_take hx);refine aAo 0 sz hr oo fun hr0=>?_;rw[List.drop_zero,Nat.sub_zero]at hr0;refine aB;refine lf rfl rfl rfl (S:=[]) (fun w hw ho=>aJk _ _ sz (ys.take sz) w htl ⟨hr0.h.go hw (aC.nil _)⟩ hut oo) ?_;rintro v S' (⟨hok,A1,c1,rfl,rfl⟩ | ⟨hok,rfl,rfl⟩)
 rotate_left
 ·rw[if_neg hok]at hfc;refine aB;refine bK;exact FiR.no hfc od
 rw[if_pos hok]at hfc;have hno:∀i:Nat,¬(i:Int)<aD1 (ys.getD 1 0)→aI2 ys i=0:=fun i h=>if_neg h;have hyes:∀i:Nat,(i:Int)<aD1 (ys.getD 1 0)→aI2 ys i=IntKind.i32.wrap (dN ys (8+4*i) 4:Nat):=fun i h=>if_pos h;have iN:=bE8 (ys.getD 1 0);have hq:aD1 (ys.getD 1 0)=0∨aD1 (ys.getD 1 0)=1∨aD1 (ys.getD 1 0)=2∨aD1 (ys.getD 1 0)=3:=oo;refine aB;rename_i g1 g2;refine lO (X:=Nat) (fun _=>True) (fun q=>[(1,.pointer (some ⟨g1,0,none⟩)),(2,.pointer (some ⟨g2,0,none⟩)),(5,.int .i64 (sz:Nat)),(8,.func (.func 139) #[] #[.pointer (some ⟨g1,0,none⟩)]),(9,.pointer (some ⟨q,0,none⟩))])
  (fun q=>[.blk q 59 [.int .i64 (ys.getD 1 0),.int .u16 (dN ys 2 2:Nat),.int .u32 (dN ys 4 4:Nat),.int .i32 0,.int .i32 0,.int .i32 0],.blk g1 34 [.slice (some ⟨bA,oA,none⟩) ys.length c],.blk g2 59 [.int .i64 0,.int .u16 0,.int .u32 0,.int .i32 0,.int .i32 0,.int .i32 0]]) ?_ ?_
 ·refine kG (0::1::2::3::4::5::6::7::8::9::10::11::12::[]) ?_;intro _;refine cE;all_goals refine lb (f:=139) (first:=#[]) (captured:=#[.pointer (some ⟨g1,0,none⟩)]) (S:=[.blk g1 34 [.slice (some ⟨bA,oA,none⟩) ys.length c]]) rfl rfl rfl rfl (fun w hw ho=>bB3 g1 _ c _ ys _ 2 2 rfl w ho rfl ⟨hr.h.go hw aC.au⟩ hu od oo oo) ?_
  all_goals rintro v S' ⟨rfl,rfl⟩
  all_goals refine cE
  all_goals refine lb (f:=139) (first:=#[]) (captured:=#[.pointer (some ⟨g1,0,none⟩)]) (S:=[.blk g1 34 [.slice (some ⟨bA,oA,none⟩) ys.length c]]) rfl rfl rfl rfl (fun w hw ho=>bB3 g1 _ c _ ys _ 4 4 rfl w ho rfl ⟨hr.h.go hw aC.au⟩ hu od oo oo) ?_
  all_goals rintro v S' ⟨rfl,rfl⟩
  all_goals refine cE
  all_goals exact aR _ trivial trivial ⟨rfl,rfl,rfl,rfl,rfl,trivial⟩ aA.au
 rintro g9 -;rcases hq with q|q|q|q
 ·rw[q]at iN hsz;have a0:=hno 0 oo;have a1:=hno 1 oo;have a2:=hno 2 oo;have hf:aFm ys=⟨ys.getD 1 0,(dN ys 2 2:Nat),(dN ys 4 4:Nat),0,0,0⟩:=by unfold aFm;simp[a0,a1,a2]
  clear a0 a1 a2 hyes hno;refine aB;refine aBw 4 ?_;refine aB;refine bK;exact FiR.yes hfc hf hszz
 ·rw[q]at iN hsz;have hl0:=sB hu (a:=8) (n:=4) oo;have a0:=hyes 0 oo;have a1:=hno 1 oo;have a2:=hno 2 oo;have hf:aFm ys=⟨ys.getD 1 0,(dN ys 2 2:Nat),(dN ys 4 4:Nat),IntKind.i32.wrap (dN ys 8 4:Nat),0,0⟩:=by unfold aFm;simp[a0,a1,a2]
  clear a0 a1 a2 hyes hno;refine aB;refine aBw 4 ?_;refine aB;refine lb (f:=139) (first:=#[]) (captured:=#[.pointer (some ⟨g1,0,none⟩)]) (S:=[.blk g1 34 [.slice (some ⟨bA,oA,none⟩) ys.length c]]) rfl rfl rfl rfl (fun w hw ho=>bB3 g1 _ c _ ys _ 8 4 (by rfl) w ho rfl ⟨hr.h.go hw aC.au⟩ hu od oo oo) ?_;rintro v S' ⟨rfl,rfl⟩;refine aB;refine bK;exact FiR.yes hfc hf hszz
 ·rw[q]at iN hsz;have hl0:=sB hu (a:=8) (n:=4) oo;have hl1:=sB hu (a:=12) (n:=4) oo;have a0:=hyes 0 oo;have a1:=hyes 1 oo;have a2:=hno 2 oo;have hf:aFm ys=⟨ys.getD 1 0,(dN ys 2 2:Nat),(dN ys 4 4:Nat),IntKind.i32.wrap (dN ys 8 4:Nat),IntKind.i32.wrap (dN ys 12 4:Nat),0⟩:=by unfold aFm;simp[a0,a1,a2]
  clear a0 a1 a2 hyes hno;refine aB;refine aBw 4 ?_;refine aB;refine lb (f:=139) (first:=#[]) (captured:=#[.pointer (some ⟨g1,0,none⟩)]) (S:=[.blk g1 34 [.slice (some ⟨bA,oA,none⟩) ys.length c]]) rfl rfl rfl rfl (fun w hw ho=>bB3 g1 _ c _ ys _ 8 4 (by rfl) w ho rfl ⟨hr.h.go hw aC.au⟩ hu od oo oo) ?_;rintro v S' ⟨rfl,rfl⟩;refine aB;refine lb (f:=139) (first:=#[]) (captured:=#[.pointer (some ⟨g1,0,none⟩)]) (S:=[.blk g1 34 [.slice (some ⟨bA,oA,none⟩) ys.length c]]) rfl rfl rfl rfl (fun w hw ho=>bB3 g1 _ c _ ys _ 12 4 (by rfl) w ho rfl ⟨hr.h.go hw aC.au⟩ hu od oo oo) ?_;rintro v S' ⟨rfl,rfl⟩;refine aB;refine bK;exact FiR.yes hfc hf hszz
 ·rw[q]at iN hsz;have hl0:=sB hu (a:=8) (n:=4) oo;have hl1:=sB hu (a:=12) (n:=4) oo;have hl2:=sB hu (a:=16) (n:=4) oo;have a0:=hyes 0 oo;have a1:=hyes 1 oo;have a2:=hyes 2 oo;have hf:aFm ys=⟨ys.getD 1 0,(dN ys 2 2:Nat),(dN ys 4 4:Nat),IntKind.i32.wrap (dN ys 8 4:Nat),IntKind.i32.wrap (dN ys 12 4:Nat),IntKind.i32.wrap (dN ys 16 4:Nat)⟩:=by unfold aFm;simp[a0,a1,a2]
  clear a0 a1 a2 hyes hno;refine aB;refine aBw 4 ?_;refine aB;refine lb (f:=139) (first:=#[]) (captured:=#[.pointer (some ⟨g1,0,none⟩)]) (S:=[.blk g1 34 [.slice (some ⟨bA,oA,none⟩) ys.length c]]) rfl rfl rfl rfl (fun w hw ho=>bB3 g1 _ c _ ys _ 8 4 (by rfl) w ho rfl ⟨hr.h.go hw aC.au⟩ hu od oo oo) ?_;rintro v S' ⟨rfl,rfl⟩;refine aB;refine lb (f:=139) (first:=#[]) (captured:=#[.pointer (some ⟨g1,0,none⟩)]) (S:=[.blk g1 34 [.slice (some ⟨bA,oA,none⟩) ys.length c]]) rfl rfl rfl rfl (fun w hw ho=>bB3 g1 _ c _ ys _ 12 4 (by rfl) w ho rfl ⟨hr.h.go hw aC.au⟩ hu od oo oo) ?_;rintro v S' ⟨rfl,rfl⟩;refine aB;refine lb (f:=139) (first:=#[]) (captured:=#[.pointer (some ⟨g1,0,none⟩)]) (S:=[.blk g1 34 [.slice (some ⟨bA,oA,none⟩) ys.length c]]) rfl rfl rfl rfl (fun w hw ho=>bB3 g1 _ c _ ys _ 16 4 (by rfl) w ho rfl ⟨hr.h.go hw aC.au⟩ hu od oo oo) ?_;rintro v S' ⟨rfl,rfl⟩;refine aB;refine bK;exact FiR.yes hfc hf hszz
end Go.Proofs.YtbhchphfmhmabaaGreat
namespace Go.Proofs.YtbhchphfmhmabaaGreat
open Go.RowKit _root_.Go.Proofs.Tryz
def aP8(A:Option Addr)(c k m:Nat)(B:Option Addr):Prop:=B=nV A k c 1∨m≤k
theorem aP8.zeroN{A:Option Addr}{c m:Nat}:aP8 A c 0 m A:=.inl (by unfold nV;split<;>cases A<;>simp[Addr.add])
theorem aP8.step{A B:Option Addr}{c k m:Nat}(h:aP8 A c k m B)(hm:m≤c)(n:Nat):aP8 A c (k+n) m (nV B n (c-k) 1):=by
 rcases Nat.lt_or_ge (k+n) m with h1|h1
 ·rcases h with rfl|h
  ·left;unfold nV;rw[if_neg oo,if_neg oo,if_neg oo];cases A with
   | none=>rfl
   | some a =>
    obtain⟨b,o,s⟩:=a;simp only[Option.map_some,Addr.add];congr 1;by_cases hk:k*1=0<;>by_cases hn:n*1=0<;>simp_all [Nat.add_assoc]
  ·omega
 ·exact .inr h1
section
variable {w0 w:World} {W:Nat→Prop} {H R:List HE}
theorem xL.part{A B:Option Addr}{m c k:Nat}{κ:IntKind}{xs:List Int}(hr:xL w0 W H 1 (.slice A m c) m (aD κ xs))(hB:aP8 A c k m B)(hk:k≤m):xL w0 W H 1 (.slice B (m-k) (c-k)) (m-k) (aD κ (xs.drop k)):=by
 obtain⟨A',c',e1,h1,h2,h3,h4⟩:=hr;injection e1 with e1 e2 e3;subst e1 e3;have hxl:xs.length=m:=by simpa using h3
 refine⟨B,c-k,rfl,oo,oo,by simp;omega,fun hpos=>?_⟩;rcases hB with rfl|hB
 ·obtain⟨b,off,rfl,h7⟩:=h4 oo;refine⟨b,off+k,?_,fun j v hj=>?_⟩
  ·unfold nV;rw[if_neg oo];simp[pL]
  ·rw[Nat.add_assoc];refine h7 (k+j) v ?_;simp only[aD,List.getElem?_map,List.getElem?_drop]at hj ⊢;exact hj
 ·omega
theorem xL.ro0{u:Value}{m s:Nat}{xs:List Value}(hw:St w0 W H w)(hr:xL w0 W H s u m xs)(hs:0<s):Ro w (bB []) s u m xs:=by
 obtain⟨A,c,e1,h1,h2,h3,h4⟩:=hr;refine⟨A,c,e1,h1,h2,h3,fun hpos=>?_⟩;obtain⟨b,off,e2,h5⟩:=h4 hpos;refine⟨b,off,e2,?_,fun h=>?_,fun j v hj=>h5 j v hj w hw⟩
 ·have hl:0<xs.length:=by rw[h3];exact Nat.mul_pos hpos hs
  have hc:=h5 0 xs[0] (List.getElem?_eq_getElem hl) w hw;rcases Nat.lt_or_ge b w.heap.size with hb|hb
  ·exact hb
  ·exfalso;have hn:w.heap[b]? = none:=Array.getElem?_eq_none hb;simp[World.cell?,hn]at hc
 ·obtain⟨x,hx,-⟩:=h;cases hx
theorem bGz{A B:Option Addr}{m c k e:Nat}{κ:IntKind}{xs:List Int}{kk:HE→List HE}[h:xI A m c H e 1 (aD κ xs) kk](hB:aP8 A c k m B)(hk:k≤m):vR w0 W H e 1 (.slice B (m-k) (c-k)) (m-k) (aD κ (xs.drop k)):=⟨fun _ hw=>by obtain⟨R,h1,-⟩:=h.h;exact(xL.row hw h1).part hB hk⟩
theorem bGp{A B:Option Addr}{m c k e:Nat}{κ:IntKind}{xs:List Int}(hw:St w0 W H w)(h1:aP H (.row (.slice A m c) e 1 m (aD κ xs)) R)(hB:aP8 A c k m B)(hk:k≤m):bP w (bB []) B (m-k) (c-k) 1 (aD κ (xs.drop k)):=⟨((xL.row hw h1).part hB hk).ro0 hw od⟩
end
instance (priority:=60) frmLo{P:Program}{w0:World}{W:Nat→Prop}{H:List HE}(t e sz bs m c l:Nat)(z:Value)(k:IntKind)(a:Int)(x lo:Operand)(A:Option Addr)[hu:aN P t (.slice e)][hI:bF P e sz bs z][ha:vP a l]:MS P w0 W H (.slice t x (some lo) none none) [.slice A m c,.int k a] (.slice (nV A l c sz) (m-l) (c-l)) (l≤m):=by
 have e:=ha.h;subst e
 infer_instance
theorem bDm{b:List Int}(h:aE2 b≠0):bDb b=bE2∧bDa b=0:=⟨if_neg h,if_neg h⟩
theorem bDn{b:List Int}(h:aE2 b=0):bDb b=aFm b∧bDa b=aFb (b.getD 1 0):=⟨if_pos h,if_pos h⟩
theorem bFy{b:List Int}(h:aE2 b=0):0<b.length∧0<aFb (b.getD 1 0)∧aFb (b.getD 1 0)≤b.length:=by obtain⟨h1,h2⟩:=bDz h;have:=aP6 h1;omega
theorem bFx(b:List Int):aE2 b=5∨aE2 b=0∨(aE2 b≠5∧aE2 b≠0∧0<b.length):=by
 by_cases h5:aE2 b=5
 ·exact .inl h5
 by_cases h0:aE2 b=0
 ·exact .inr (.inl h0)
 ·refine .inr (.inr ⟨h5,h0,?_⟩);rcases Nat.eq_zero_or_pos b.length with h|h
  ·exact absurd (by unfold aE2;rw[if_pos h]) h5
  ·exact h
@[reducible] def aF7(A:Option Addr)(c:Nat)(xs:List Int):HE:=.row (.slice A xs.length c) 5 1 xs.length (aD .u8 xs)
@[reducible] def bDd(A:Option Addr)(c:Nat)(l:List lM):HE:=.row (.slice A l.length c) 59 6 l.length (aO dU l)
def PuR(d ty:Nat)(p0:Value)(rest:List Value)(lost:Int)(zs:List Int)(v:Value)(S':List HE):Prop:=∃A c Ao co,v=.slice Ao (aDg zs).1.length co ∧
 S'=[bDd Ao co (aDg zs).1,.blk d ty (p0::.slice A (aDg zs).2.2.length c::.int .i64 (lost+((aDg zs).2.1:Nat))::rest),aF7 A c ((aDg zs).2.2)]
attribute [local irreducible] OJ J bM Code.wpIn wpListIn Oper.wpIn bodyPost CallsIn aF
theorem bGj(d ty:Nat)(p0:Value)(rest:List Value)(lost:Int)(A:Option Addr)(c:Nat)(ys:List Int)(B:Option Addr)(e:Nat)(bs:List Int)(w:World)(hown:aZ [.blk d ty (p0::.slice A ys.length c::.int .i64 lost::rest),aF7 A c (ys)] w)
  (hr:bP w (bB [.blk d ty (p0::.slice A ys.length c::.int .i64 lost::rest),aF7 A c (ys)]) B bs.length e 1 (aD .u8 bs)) (hu:dL ys) (hub:dL bs) (hm:ys.length+bs.length<10000000) (hlo:0≤lost∧lost≤1000000000) :
  aF prog 57 [.pointer (some ⟨d,1,none⟩),.slice B bs.length e] [.blk d ty (p0::.slice A ys.length c::.int .i64 lost::rest),aF7 A c (ys)] w (PuR d ty p0 rest lost (ys++bs)):=by
 refine aJ func57 rfl ntmps57 rfl hown (fun _=>?_);simp only[aG];refine aB;rename_i A1 c1;have hux:dL (ys++bs):=dL.app hu hub;have hlx:(ys++bs).length<10000000:=by rw[List.length_append];omega
 generalize ys++bs=zs at *;refine dH (e:=59) (size:=6) ?_;refine cG (X:=Nat×List lM×Nat×(Option Addr×Nat)×(Option Addr×Nat)) (fun q=>q.1≤zs.length∧q.2.1.length≤q.1∧q.2.2.1≤q.1∧aDg zs=(q.2.1++(aDg (zs.drop q.1)).1,q.2.2.1+(aDg (zs.drop q.1)).2.1,(aDg (zs.drop q.1)).2.2)∧aP8 A1 c1 q.1 zs.length q.2.2.2.1.1∧q.2.2.2.1.2=c1-q.1)
  (fun q=>[(0,.pointer (some ⟨d,1,none⟩)),(5,.slice q.2.2.2.2.1 q.2.1.length q.2.2.2.2.2)])
  (fun q=>[bDd q.2.2.2.2.1 q.2.2.2.2.2 q.2.1,.blk d ty (p0::.slice q.2.2.2.1.1 (zs.length-q.1) q.2.2.2.1.2::.int .i64 (lost+(q.2.2.1:Nat))::rest),aF7 A1 c1 (zs)]) (fun q=>zs.length-q.1) (0,[],0,(A1,c1),(none,0)) ⟨Nat.zero_le _,Nat.le_refl _,Nat.le_refl _,aE,aP8.zeroN,rfl⟩ ⟨rfl,rfl,trivial⟩ (by simp only[Nat.sub_zero];rw[show lost+((0:Nat):Int)=lost by omega];exact aA.refl _) ?_
 rintro⟨k,out,p,⟨A2,c2⟩,⟨A3,c3⟩⟩ ⟨h1,h2,h3,h4,h5,h6⟩;dsimp only at h1 h2 h3 h4 h5 h6 ⊢;subst h6;have hdl:(zs.drop k).length=zs.length-k:=List.length_drop;have hud:dL (zs.drop k):=fun x hx=>hux x (List.mem_of_mem_drop hx);have iSrc:∀(w0:World) (W:Nat→Prop) (H:List HE) (kk:HE→List HE) [xI A1 zs.length c1 H 5 1 (aD .u8 zs) kk],vR w0 W H 5 1 (.slice A2 (zs.length-k) (c1-k)) (zs.length-k) (aD .u8 (zs.drop k)):=fun _ _ _ _ _=>bGz h5 h1;refine bEo (.there _ (.there _ (.here _ _))) fun hcap=>?_;refine aB;refine lf rfl rfl rfl (S:=[]) (fun w hw ho=>bG0 A2 (c1-k) (zs.length-k) (zs.drop k) w hdl (bGp (m:=zs.length) hw (by refine cF) h5 h1) hud oo) ?_;rintro v S' ⟨rfl,rfl⟩;rcases bFx (zs.drop k) with e5|e0 | ⟨n5,n0,hpos⟩
 ·rw[e5,(bDm (b:=zs.drop k) (by rw[e5];decide)).1,(bDm (b:=zs.drop k) (by rw[e5];decide)).2];rw[bDj e5]at h4;refine aB;rename_i A9 c9;dsimp only at h4;rw[List.append_nil,Nat.add_zero]at h4;unfold PuR;rw[h4];exact aM rfl rfl aA.au ⟨A9,c9,A3,c3,rfl,rfl⟩
 ·obtain⟨hp1,hp2,hp3⟩:=bFy e0;rw[e0,(bDn e0).1,(bDn e0).2];rw[bD8 e0,List.drop_drop]at h4;dsimp only at h4;obtain⟨sz,hsz⟩:∃sz,aFb ((zs.drop k).getD 1 0)=sz:=⟨_,rfl⟩;obtain⟨f,hf⟩:∃f,aFm (zs.drop k)=f:=⟨_,rfl⟩;rw[hf]at h4 ⊢;rw[hsz]at h4 hp2 hp3 ⊢;obtain⟨fk,fs,ft,fa,fb,fc⟩:=f;refine aB;rename_i A9 c9;exact aR (k+sz,out++[⟨fk,fs,ft,fa,fb,fc⟩],p,(nV A2 sz (c1-k) 1,c1-k-sz),(A9,c9)) ⟨by show k+sz≤zs.length;omega,by rw[List.length_append];show out.length+1≤k+sz;omega,by show p≤k+sz;omega,by rw[h4,List.append_assoc];rfl,h5.step hcap.1 sz,by show c1-k-sz=c1-(k+sz);omega⟩ (by show zs.length-(k+sz)<zs.length-k;omega) ⟨rfl,rfl,trivial⟩ (by simp only[Nat.sub_add_eq];exact aA.au)
 ·rw[(bDm n0).1,(bDm n0).2];rw[bD2 n5 n0,List.drop_drop]at h4;dsimp only at h4;obtain⟨cd,hcd⟩:∃cd,aE2 (zs.drop k)=cd:=⟨_,rfl⟩;rw[hcd]at n5 n0 ⊢;have iE:∀w0 W H t u a b,MS prog w0 W H (.binOp .eql t a b u) [.int .i64 cd,.int .i64 0] (.bool false) True:=fun _ _ _ _ _ _ _=>cD inferInstance trivial (congrArg Value.bool (by simpa using n0));have iF:∀w0 W H t u a b,MS prog w0 W H (.binOp .eql t a b u) [.int .i64 cd,.int .i64 5] (.bool false) True:=fun _ _ _ _ _ _ _=>cD inferInstance trivial (congrArg Value.bool (by simpa using n5));refine aB;exact aR (k+1,out,p+1,(nV A2 1 (c1-k) 1,c1-k-1),(A3,c3)) ⟨by show k+1≤zs.length;omega,by show out.length≤k+1;omega,by show p+1≤k+1;omega,by rw[h4];simp only[Prod.mk.injEq,true_and,and_true];omega,h5.step hcap.1 1,by show c1-k-1=c1-(k+1);omega⟩ (by show zs.length-(k+1)<zs.length-k;omega) ⟨rfl,rfl,trivial⟩ (by simp only[Nat.sub_add_eq];rw[show lost+((p+1:Nat):Int)=lost+(p:Int)+1 by omega];exact aA.au)
theorem bG1(s:aK):0≤pP s∧pP s≤31:=by
 unfold pP;repeat' split
 all_goals omega
theorem bEb{s:aK}{out:List lM}{k:Nat}(h:aA3 s out)(hN:cS s k):out.length≤2∧∀f∈out,f.ok∧aGl f=0∧(f.kind=6∨f.kind=7):=by
 have hfl:=bG1 s;have hm:=hN.mode;have hsq:=hN.seq;have m7:(⟨7,s.seq,s.time,s.mode,pP s,0⟩:lM).ok∧aGl ⟨7,s.seq,s.time,s.mode,pP s,0⟩=0:=by
  refine⟨⟨by show bG .i64 7;decide,hsq,hN.time,?_,?_,by show bG .i32 0;decide⟩,?_⟩
  ·show (-2147483648:Int)≤s.mode∧s.mode≤(2147483647:Int);omega
  ·show (-2147483648:Int)≤pP s∧pP s≤(2147483647:Int);omega
  ·have e:aD1 7=2:=od;unfold aGl;dsimp only;rw[e,if_neg od,if_neg oo]
 rcases h with rfl|rfl | ⟨c,rfl,-,-,hc⟩
 ·exact⟨aE,fun f hf=>absurd hf aE⟩
 ·refine⟨aE,fun f hf=>?_⟩;rw[List.mem_singleton]at hf;subst hf;exact⟨m7.1,m7.2,.inr rfl⟩
 ·refine⟨aE,fun f hf=>?_⟩;simp only[List.mem_cons,List.not_mem_nil,or_false]at hf;rcases hf with rfl|rfl
  ·exact⟨m7.1,m7.2,.inr rfl⟩
  ·obtain⟨k6,-,-,fa,fb⟩:=aSc hc;have hst:f.seq=s.seq∧f.time=s.time∧pO f.c:=by
    unfold qQ at hc;dsimp only at hc;split at hc
    ·rename_i hq;injection hc with hc;subst hc;exact⟨rfl,rfl,hq.2.2.2.2.2.2⟩
    ·cases hc
   obtain⟨e1,e2,fc⟩:=hst;unfold pO at fa fb fc;refine⟨⟨by rw[k6];decide,by rw[e1];exact hsq,by rw[e2];exact hN.time,?_,?_,?_⟩,?_,.inl k6⟩
   ·show (-2147483648:Int)≤f.a∧f.a≤(2147483647:Int);omega
   ·show (-2147483648:Int)≤f.b∧f.b≤(2147483647:Int);omega
   ·show (-2147483648:Int)≤f.c∧f.c≤(2147483647:Int);omega
   ·have e:aD1 f.kind=3:=by rw[k6];decide
    unfold aGl;rw[e,if_neg od,if_neg oo]
section
variable (W H:Nat) (f:List Int)
def aE4:aK→List lM→aK×List lM
 | s,[]=>(s,[])
 | s,x::l=>((aE4 (nW W H f s x).1 l).1,(nW W H f s x).2++(aE4 (nW W H f s x).1 l).2)
theorem bEa:∀(l m:List lM) (s:aK),aE4 W H f s (l++m)=((aE4 W H f (aE4 W H f s l).1 m).1,(aE4 W H f s l).2++(aE4 W H f (aE4 W H f s l).1 m).2)
 | [],m,s=>rfl
 | x::l,m,s=>by rw[List.cons_append,aE4,aE4,bEa l m];simp only[List.append_assoc]
theorem bDp:∀(l:List lM) (s:aK) (k:Nat),(∀x∈l,x.ok)→cS s k→(s.mode≠4→kT s.x s.y=true)→k+l.length≤16777216 →
  cS (aE4 W H f s l).1 (k+l.length)∧((aE4 W H f s l).1.mode≠4→kT (aE4 W H f s l).1.x (aE4 W H f s l).1.y=true)∧(aE4 W H f s l).2.length≤2*l.length∧∀x∈(aE4 W H f s l).2,x.ok∧aGl x=0∧(x.kind=6∨x.kind=7)
 | [],s,k,_,hN,hw,_=>⟨hN,hw,Nat.le_refl _,fun x hx=>absurd hx (by simp[aE4])⟩
 | x::l,s,k,hx,hN,hw,hk=>by
  have hk':k+(l.length+1)≤16777216:=hk;have h1:=bBj (W:=W) (H:=H) (f:=f) hN hw (hx x (List.mem_cons_self ..)) oo;have h2:=bBi (W:=W) (H:=H) (f:=f) hw hN.mode x;obtain⟨-,h3⟩:=bBk (W:=W) (H:=H) (f:=f) s x;obtain⟨t1,t2⟩:=bEb h3 h1;obtain⟨q1,q2,q3,q4⟩:=bDp l (nW W H f s x).1 (k+1) (fun y hy=>hx y (List.mem_cons_of_mem _ hy)) h1 h2 oo;rw[aE4];refine⟨by rw[List.length_cons,show k+(l.length+1)=k+1+l.length by omega];exact q1,q2,?_,?_⟩
  ·rw[List.length_append,List.length_cons];omega
  ·intro y hy;rcases List.mem_append.1 hy with hy|hy
   ·exact t2 y hy
   ·exact q4 y hy
end
theorem bCy:∀l:List lM,(∀x∈l,aGl x=0)→(l.flatMap aDn).length≤24*l.length
 | [],_=>Nat.le_refl _
 | x::l,h=>by have h0:=h x (List.mem_cons_self ..);have h1:=bCy l (fun y hy=>h y (List.mem_cons_of_mem _ hy));have h2:=bD0 h0;have h3:=(aP6 (bBx h0)).2.1;rw[List.flatMap_cons,List.length_append,List.length_cons];omega
theorem bG5{f:lM}(h:aGl f=0):(aDn f).length≤24:=by rw[bD0 h];exact(aP6 (bBx h)).2.1
def aE9(l:List lM)(k:Int):Int:=((l.filter fun f=>decide (f.kind=k)).length:Nat)
theorem bF7(l:List lM)(k:Int):0≤aE9 l k∧aE9 l k≤(l.length:Int):=by have:=List.length_filter_le (fun f:lM=>decide (f.kind=k)) l;unfold aE9;omega
theorem bCz(l:List lM)(x:lM)(k:Int):aE9 (l++[x]) k=aE9 l k+if x.kind=k then 1 else 0:=by unfold aE9;rw[List.filter_append,List.length_append];by_cases h:x.kind=k<;>simp[h]
@[reducible] def drE(g:Nat)(A:Option Addr)(n c:Nat)(lost:Int)(l:List lM)(told:Int):List Value:=.pointer (some ⟨g,0,none⟩)::.slice A n c::.int .i64 lost::.int .i64 (l.length:Nat)::.int .i64 told ::
 .int .i64 (aE9 l 0)::.int .i64 (aE9 l 1)::.int .i64 (aE9 l 2)::.int .i64 (aE9 l 3)::.int .i64 (aE9 l 4)::.int .i64 (aE9 l 5)::.int .i64 (aE9 l 6)::.int .i64 (aE9 l 7)::[]
@[reducible] def drH(d g:Nat)(A:Option Addr)(n c:Nat)(lost:Int)(l:List lM)(told:Int):HE:=.blk d 105 (drE g A n c lost l told)
theorem bFp(d g:Nat):drH d g none 0 0 0 [] 0=.blk d 105 [.pointer (some ⟨g,0,none⟩),.slice none 0 0,.int .i64 0,.int .i64 0,.int .i64 0,.int .i64 0,.int .i64 0,.int .i64 0,.int .i64 0,.int .i64 0,.int .i64 0,.int .i64 0,.int .i64 0]:=rfl
theorem bFe(d g:Nat)(A:Option Addr)(n c:Nat)(lost:Int)(l:List lM)(told:Int)(w:World)(hown:aZ [drH d g A n c lost l told] w):
  aF prog 22 [.pointer (some ⟨d,0,none⟩)] [drH d g A n c lost l told] w (fun v S'=>v=.pointer (some ⟨g,0,none⟩)∧S'=[drH d g A n c lost l told]):=by
 refine aJ func22 rfl ntmps22 rfl hown (fun _=>?_);simp only[aG];refine aB;exact aM rfl rfl aA.au ⟨rfl,rfl⟩
theorem bFb(d g:Nat)(A:Option Addr)(n c:Nat)(lost:Int)(l:List lM)(told:Int)(w:World)(hown:aZ [drH d g A n c lost l told] w):
  aF prog 24 [.pointer (some ⟨d,0,none⟩)] [drH d g A n c lost l told] w (fun v S'=>v=.tuple #[.int .i64 (l.length:Nat),.int .i64 told]∧S'=[drH d g A n c lost l told]):=by
 refine aJ func24 rfl ntmps24 rfl hown (fun _=>?_);simp only[aG];refine aB;exact cY rfl rfl rfl aA.au ⟨rfl,rfl⟩
theorem bG2(d ty:Nat)(p0:Value)(rest:List Value)(lost:Int)(A:Option Addr)(n c:Nat)(w:World)(hown:aZ [.blk d ty (p0::.slice A n c::.int .i64 lost::rest)] w):
  aF prog 68 [.pointer (some ⟨d,1,none⟩)] [.blk d ty (p0::.slice A n c::.int .i64 lost::rest)] w (fun v S'=>v=.int .i64 lost∧S'=[.blk d ty (p0::.slice A n c::.int .i64 lost::rest)]):=by
 refine aJ func68 rfl ntmps68 rfl hown (fun _=>?_);simp only[aG];refine aB;exact aM rfl rfl aA.au ⟨rfl,rfl⟩
theorem bG8(d ty:Nat)(p0:Value)(rest:List Value)(lost:Int)(A:Option Addr)(n c:Nat)(w:World)(hown:aZ [.blk d ty (p0::.slice A n c::.int .i64 lost::rest)] w):
  aF prog 69 [.pointer (some ⟨d,1,none⟩)] [.blk d ty (p0::.slice A n c::.int .i64 lost::rest)] w (fun v S'=>v=.int .i64 n∧S'=[.blk d ty (p0::.slice A n c::.int .i64 lost::rest)]):=by
 refine aJ func69 rfl ntmps69 rfl hown (fun _=>?_);simp only[aG];refine aB;exact aM rfl rfl aA.au ⟨rfl,rfl⟩
theorem bFd(d g:Nat)(A:Option Addr)(n c:Nat)(lost:Int)(l:List lM)(told:Int)(w:World)(hown:aZ [drH d g A n c lost l told] w):
  aF prog 28 [.pointer (some ⟨d,0,none⟩)] [drH d g A n c lost l told] w (fun v S'=>v=.int .i64 lost∧S'=[drH d g A n c lost l told]):=by
 refine aJ func28 rfl ntmps28 rfl hown (fun _=>?_);simp only[aG];refine aB;refine lf rfl rfl rfl (S:=[drH d g A n c lost l told]) (fun w hw ho=>bG2 d _ _ _ lost A n c w ho) ?_;rintro v S' ⟨rfl,rfl⟩;refine aB;exact aM rfl rfl aA.au ⟨rfl,rfl⟩
theorem bFs(d g:Nat)(A:Option Addr)(n c:Nat)(lost:Int)(l:List lM)(told:Int)(w:World)(hown:aZ [drH d g A n c lost l told] w):
  aF prog 29 [.pointer (some ⟨d,0,none⟩)] [drH d g A n c lost l told] w (fun v S'=>v=.int .i64 n∧S'=[drH d g A n c lost l told]):=by
 refine aJ func29 rfl ntmps29 rfl hown (fun _=>?_);simp only[aG];refine aB;refine lf rfl rfl rfl (S:=[drH d g A n c lost l told]) (fun w hw ho=>bG8 d _ _ _ lost A n c w ho) ?_;rintro v S' ⟨rfl,rfl⟩;refine aB;exact aM rfl rfl aA.au ⟨rfl,rfl⟩
def bEr(l:List lM)(k:Int):Int:=if k<0∨8≤k then 0 else aE9 l k
theorem bEh(d g:Nat)(A:Option Addr)(n c:Nat)(lost:Int)(l:List lM)(told:Int)(k:Int)(w:World)(hown:aZ [drH d g A n c lost l told] w):
  aF prog 25 [.pointer (some ⟨d,0,none⟩),.int .i64 k] [drH d g A n c lost l told] w (fun v S'=>v=.int .i64 (bEr l k)∧S'=[drH d g A n c lost l told]):=by
 refine aJ func25 rfl ntmps25 rfl hown (fun _=>?_);simp only[aG];unfold bEr;by_cases hk:k<0∨8≤k
 ·rw[if_pos hk];refine aB;all_goals first
   | exact aM rfl rfl aA.au ⟨rfl,rfl⟩
   | (exfalso;omega)
 ·rw[if_neg hk];have h8:k=0∨k=1∨k=2∨k=3∨k=4∨k=5∨k=6∨k=7:=oo;rcases h8 with rfl|rfl|rfl|rfl|rfl|rfl|rfl|rfl;all_goals
   refine aB;exact aM rfl rfl aA.au ⟨rfl,rfl⟩
instance bound_cv(n:Nat):CV prog 19 [.int .i64 n] (.int .i64 ((n/12*2*24:Nat):Int)) (n≤1000000000):=⟨fun hn w=>by
 refine aJ func19 rfl ntmps19 rfl ⟨aE,.nil⟩ (fun _=>?_);simp only[aG];refine aB;all_goals first
  | (exfalso;omega)
  | exact aM rfl rfl (.nil _) ⟨by first|rfl|(congr 1;done)|(congr 1;omega),rfl⟩⟩
def DnR(ys:List Int)(cf:dF)(x y:Int)(v:Value)(S':List HE):Prop :=
 (oR cf≠0∧v=.tuple #[.pointer none,.int .i64 (oR cf)]∧S'=[]) ∨
 (oR cf=0∧∃(d g:Nat) (s0:aK) (a:bQ) (T:List HE),v=.tuple #[.pointer (some ⟨d,0,none⟩),.int .i64 0]∧S'=drH d g none 0 0 0 [] 0::tB g s0 a [] (none,0,[]) (none,0,[]) T∧(∃ptr,a=⟨ptr,none,0,none,0,none,0,none,0,none,0⟩ ∧
  ((s0 = qA cf x y ∧ rJ ys 0 ∧ kT x y = true ∧ ∃ K : eH, K.ys = ys ∧ K.room = 8 ∧ ptr = some ⟨K.g, 0, none⟩ ∧ T = K.H (xZ 8)) ∨
   (s0 = { qA cf x y with mode := 4 } ∧ ptr = none ∧ T = [] ∧ ((∃ code, code ≠ 0 ∧ rJ ys code) ∨ (rJ ys 0 ∧ kT x y = false))))))
theorem bDh(A:Option Addr)(c:Nat)(ys:List Int)(cf:dF)(x y:Int)(w:World)(hr:bP w (bB []) A ys.length c 1 (aD .u8 ys))(hu:dL ys)(hm:ys.length<100000000):
  aF prog 15 [.slice A ys.length c,.agg (aAe cf).toArray,.agg #[.int .i64 x,.int .i64 y]] [] w (DnR ys cf x y):=by
 refine aJ func15 rfl ntmps15 rfl ⟨aE,.nil⟩ (fun n=>?_);simp only[aG];refine aB;refine lf rfl rfl rfl (S:=[]) (fun w hw ho=>aWu A c ys cf x y w ⟨hr.h.go hw (aC.nil _)⟩ hu hm) ?_;rintro v S' (⟨h,rfl,rfl⟩ | ⟨h,g,s0,a,T,rfl,rfl,hT⟩)
 ·have iN:∀w0 W H t u a b,MS prog w0 W H (.binOp .neq t a b u) [.int .i64 (oR cf),.int .i64 0] (.bool true) True:=fun _ _ _ _ _ _ _=>cD inferInstance trivial (congrArg Value.bool (by simpa using h));refine aB;exact cY rfl rfl rfl (.nil _) (.inl ⟨h,rfl,rfl⟩)
 ·have iE0:∀w0 W H t u a b,MS prog w0 W H (.binOp .neq t a b u) [.int .i64 0,.int .i64 0] (.bool false) True:=fun _ _ _ _ _ _ _=>cD inferInstance trivial rfl;refine aCr ?_;simp only[List.cons_append,List.nil_append];refine aB;rename_i b9;exact cY (S':=drH b9 g none 0 0 0 [] 0::tB g s0 a [] (none,0,[]) (none,0,[]) T) rfl rfl rfl (by rw[bFp];exact aA.au) (.inr ⟨h,b9,g,s0,a,T,rfl,rfl,hT⟩)
theorem bFi(d g:Nat)(A:Option Addr)(n c:Nat)(lost:Int)(l:List lM)(told xs xt xa xb xc:Int):drH d g A n c lost (l++[⟨1,xs,xt,xa,xb,xc⟩]) told=.blk d 105 [.pointer (some ⟨g,0,none⟩),.slice A n c,.int .i64 lost,.int .i64 ((l.length:Int)+1),.int .i64 told,.int .i64 (aE9 l 0),.int .i64 (aE9 l 1+1),.int .i64 (aE9 l 2),.int .i64 (aE9 l 3),.int .i64 (aE9 l 4),.int .i64 (aE9 l 5),.int .i64 (aE9 l 6),.int .i64 (aE9 l 7)]:=by simp[drH,drE,bCz]
theorem bFj(d g:Nat)(A:Option Addr)(n c:Nat)(lost:Int)(l:List lM)(told xs xt xa xb xc:Int):drH d g A n c lost (l++[⟨2,xs,xt,xa,xb,xc⟩]) told=.blk d 105 [.pointer (some ⟨g,0,none⟩),.slice A n c,.int .i64 lost,.int .i64 ((l.length:Int)+1),.int .i64 told,.int .i64 (aE9 l 0),.int .i64 (aE9 l 1),.int .i64 (aE9 l 2+1),.int .i64 (aE9 l 3),.int .i64 (aE9 l 4),.int .i64 (aE9 l 5),.int .i64 (aE9 l 6),.int .i64 (aE9 l 7)]:=by simp[drH,drE,bCz]
theorem bFk(d g:Nat)(A:Option Addr)(n c:Nat)(lost:Int)(l:List lM)(told xs xt xa xb xc:Int):drH d g A n c lost (l++[⟨3,xs,xt,xa,xb,xc⟩]) told=.blk d 105 [.pointer (some ⟨g,0,none⟩),.slice A n c,.int .i64 lost,.int .i64 ((l.length:Int)+1),.int .i64 told,.int .i64 (aE9 l 0),.int .i64 (aE9 l 1),.int .i64 (aE9 l 2),.int .i64 (aE9 l 3+1),.int .i64 (aE9 l 4),.int .i64 (aE9 l 5),.int .i64 (aE9 l 6),.int .i64 (aE9 l 7)]:=by simp[drH,drE,bCz]
theorem bFl(d g:Nat)(A:Option Addr)(n c:Nat)(lost:Int)(l:List lM)(told xs xt xa xb xc:Int):drH d g A n c lost (l++[⟨4,xs,xt,xa,xb,xc⟩]) told=.blk d 105 [.pointer (some ⟨g,0,none⟩),.slice A n c,.int .i64 lost,.int .i64 ((l.length:Int)+1),.int .i64 told,.int .i64 (aE9 l 0),.int .i64 (aE9 l 1),.int .i64 (aE9 l 2),.int .i64 (aE9 l 3),.int .i64 (aE9 l 4+1),.int .i64 (aE9 l 5),.int .i64 (aE9 l 6),.int .i64 (aE9 l 7)]:=by simp[drH,drE,bCz]
theorem bFm(d g:Nat)(A:Option Addr)(n c:Nat)(lost:Int)(l:List lM)(told xs xt xa xb xc:Int):drH d g A n c lost (l++[⟨5,xs,xt,xa,xb,xc⟩]) told=.blk d 105 [.pointer (some ⟨g,0,none⟩),.slice A n c,.int .i64 lost,.int .i64 ((l.length:Int)+1),.int .i64 told,.int .i64 (aE9 l 0),.int .i64 (aE9 l 1),.int .i64 (aE9 l 2),.int .i64 (aE9 l 3),.int .i64 (aE9 l 4),.int .i64 (aE9 l 5+1),.int .i64 (aE9 l 6),.int .i64 (aE9 l 7)]:=by simp[drH,drE,bCz]
theorem bFn(d g:Nat)(A:Option Addr)(n c:Nat)(lost:Int)(l:List lM)(told xs xt xa xb xc:Int):drH d g A n c lost (l++[⟨6,xs,xt,xa,xb,xc⟩]) told=.blk d 105 [.pointer (some ⟨g,0,none⟩),.slice A n c,.int .i64 lost,.int .i64 ((l.length:Int)+1),.int .i64 told,.int .i64 (aE9 l 0),.int .i64 (aE9 l 1),.int .i64 (aE9 l 2),.int .i64 (aE9 l 3),.int .i64 (aE9 l 4),.int .i64 (aE9 l 5),.int .i64 (aE9 l 6+1),.int .i64 (aE9 l 7)]:=by simp[drH,drE,bCz]
theorem bFo(d g:Nat)(A:Option Addr)(n c:Nat)(lost:Int)(l:List lM)(told xs xt xa xb xc:Int):drH d g A n c lost (l++[⟨7,xs,xt,xa,xb,xc⟩]) told=.blk d 105 [.pointer (some ⟨g,0,none⟩),.slice A n c,.int .i64 lost,.int .i64 ((l.length:Int)+1),.int .i64 told,.int .i64 (aE9 l 0),.int .i64 (aE9 l 1),.int .i64 (aE9 l 2),.int .i64 (aE9 l 3),.int .i64 (aE9 l 4),.int .i64 (aE9 l 5),.int .i64 (aE9 l 6),.int .i64 (aE9 l 7+1)]:=by simp[drH,drE,bCz]
def DtR(ys f:List Int)(k:Nat)(b:Int)(d g:Nat)(A:Option Addr)(n c:Nat)(lost:Int)(l:List lM)(told:Int)(r:aK×List lM)(v:Value)(S':List HE):Prop :=
 ∃Ao co a2 ds2 y1 y2 T2,v=.slice Ao (r.2.flatMap aDn).length co∧S'=aF7 Ao co (r.2.flatMap aDn)::drH d g A n c lost l (told+(r.2.length:Nat))::tB g r.1 a2 ds2 y1 y2 T2∧NvI ys f k b r.1 a2 ds2 y1 y2 T2
theorem bFr(ys f:List Int)(d g k:Nat)(s:aK)(a:bQ)(ds:List jT)(x1 x2:gX)(T:List HE)(x:lM)(b:Int)(A:Option Addr)(n c:Nat)(lost:Int)(l:List lM)(told:Int)(w:World)(hown:aZ (drH d g A n c lost l told::tB g s a ds x1 x2 T) w)(hI:NvI ys f k b s a ds x1 x2 T)(hx:x.ok)(hxk:1≤x.kind∧x.kind≤7)(hk:k≤10000000)(hb:b≤200000000000000000)(hl:l.length≤1000000)(htd:0≤told∧told≤10000000):
  aF prog 55 [.pointer (some ⟨d,0,none⟩),.agg (dU x).toArray] (drH d g A n c lost l told::tB g s a ds x1 x2 T) w (fun v S'=>DtR ys f (k+1) (b+6000000) d g A n c lost (l++[x]) told (nW (wY ys) (hY ys) f s x) v S'):=by
 obtain⟨-,htl⟩:=bBk (W:=wY ys) (H:=hY ys) (f:=f) s x;have hok2:=bBj (W:=wY ys) (H:=hY ys) (f:=f) hI.ok hI.near hx oo;obtain⟨hol,hof⟩:=bEb htl hok2;have hTk:=fun w ho=>bBs ys f g k s a ds x1 x2 T x b w ho hI hx oo hb;generalize nW (wY ys) (hY ys) f s x=r at *;obtain⟨s2,out⟩:=r;dsimp only at hol hof hTk;clear htl hok2;have hc:=fun k=>bF7 l k;refine aJ func55 rfl ntmps55 rfl hown (fun _=>?_);simp only[aG];obtain⟨xk,xs,xt,xa,xb,xc⟩:=x;dsimp only at hxk;refine aB;rename_i b3;refine lO (X:=Unit) (fun _=>True) (fun _=>[(0,.pointer (some ⟨d,0,none⟩)),(3,.pointer (some ⟨b3,0,none⟩))]) (fun _=>.blk b3 59 (dU ⟨xk,xs,xt,xa,xb,xc⟩)::drH d g A n c lost (l++[⟨xk,xs,xt,xa,xb,xc⟩]) told::tB g s a ds x1 x2 T) ?_ ?_
 ·have h7:xk=1∨xk=2∨xk=3∨xk=4∨xk=5∨xk=6∨xk=7:=oo;have hc1:=hc 1;have hc2:=hc 2;have hc3:=hc 3;have hc4:=hc 4;have hc5:=hc 5;have hc6:=hc 6;have hc7:=hc 7;rcases h7 with rfl|rfl|rfl|rfl|rfl|rfl|rfl
  ·refine fJ [] (0::1::2::3::4::5::6::7::8::9::10::11::[]) (.nil _) ?_;intro _;refine cE;all_goals exact aR () trivial trivial ⟨rfl,rfl,trivial⟩ (by rw[bFi];exact aA.au)
  ·refine fJ [] (0::1::2::3::4::5::6::7::8::9::10::11::[]) (.nil _) ?_;intro _;refine cE;all_goals exact aR () trivial trivial ⟨rfl,rfl,trivial⟩ (by rw[bFj];exact aA.au)
  ·refine fJ [] (0::1::2::3::4::5::6::7::8::9::10::11::[]) (.nil _) ?_;intro _;refine cE;all_goals exact aR () trivial trivial ⟨rfl,rfl,trivial⟩ (by rw[bFk];exact aA.au)
  ·refine fJ [] (0::1::2::3::4::5::6::7::8::9::10::11::[]) (.nil _) ?_;intro _;refine cE;all_goals exact aR () trivial trivial ⟨rfl,rfl,trivial⟩ (by rw[bFl];exact aA.au)
  ·refine fJ [] (0::1::2::3::4::5::6::7::8::9::10::11::[]) (.nil _) ?_;intro _;refine cE;all_goals exact aR () trivial trivial ⟨rfl,rfl,trivial⟩ (by rw[bFm];exact aA.au)
  ·refine fJ [] (0::1::2::3::4::5::6::7::8::9::10::11::[]) (.nil _) ?_;intro _;refine cE;all_goals exact aR () trivial trivial ⟨rfl,rfl,trivial⟩ (by rw[bFn];exact aA.au)
  ·refine fJ [] (0::1::2::3::4::5::6::7::8::9::10::11::[]) (.nil _) ?_;intro _;refine cE;all_goals exact aR () trivial trivial ⟨rfl,rfl,trivial⟩ (by rw[bFo];exact aA.au)
 rintro _ -;clear hc;have hl1:(l++[(⟨xk,xs,xt,xa,xb,xc⟩:lM)]).length≤1000001:=by rw[List.length_append];simp only[List.length_cons,List.length_nil];omega
 generalize l++[(⟨xk,xs,xt,xa,xb,xc⟩:lM)]=l1 at *;refine aB;refine dM [.blk b3 59 (dU ⟨xk,xs,xt,xa,xb,xc⟩),drH d g A n c lost l1 told] [true,true,true,true,true,false,false,true] [5,6] aA.au rfl od bD ?_;repeat' (first|refine fN rfl rfl rfl ?_|(refine fM rfl rfl rfl ?_ ?_;(next=>first|exact trivial|omega))|refine fC ?_)
 refine fX ?_;intro _;refine cE;refine fO (S:=tB g s a ds x1 x2 T) rfl rfl aC.au rfl (fun w hw ho=>hTk w ho) ?_;rintro v S' ⟨So,a2,ds2,y1,y2,T2,⟨A5,c5,rfl,rfl⟩,rfl,hI2⟩;dsimp only at hI2 ⊢;refine aCr ?_;simp only[List.cons_append,List.nil_append];refine cE;have htk:∀i,i<out.length→(out.take (i+1)).flatMap aDn=(out.take i).flatMap aDn++aDn (out.getD i default):=by intro i hi;rw[List.take_succ_eq_append_getElem hi,List.flatMap_append,List.getD_eq_getElem?_getD,List.getElem?_eq_getElem hi];simp
 have hbl:∀i,((out.take i).flatMap aDn).length≤48:=by
  intro i;have h1:=bCy (out.take i) (fun y hy=>(hof y (List.mem_of_mem_take hy)).2.1);have h2:(out.take i).length≤2:=by rw[List.length_take];omega
  omega
 refine dH (e:=5) (size:=1) ?_;refine cG (X:=Nat×Option Addr×Nat) (fun q=>q.1≤out.length) (fun q=>[(0,.pointer (some ⟨d,0,none⟩)),(5,.slice q.2.1 ((out.take q.1).flatMap aDn).length q.2.2),(33,.slice A5 out.length c5),(34,.int .i64 out.length),(35,.int .i64 q.1)])
  (fun q=>aF7 q.2.1 q.2.2 ((out.take q.1).flatMap aDn)::bDd A5 c5 out::drH d g A n c lost l1 (told+(q.1:Nat))::tB g s2 a2 ds2 y1 y2 T2) (fun q=>out.length-q.1) (0,none,0) (Nat.zero_le _) ⟨rfl,rfl,rfl,rfl,rfl,trivial⟩ (by simp only[List.take_zero,List.flatMap_nil];rw[show told+((0:Nat):Int)=told by omega];show aA (.row (.slice none 0 0) 5 1 0 []::bDd A5 c5 out::drH d g A n c lost l1 told::tB g s2 a2 ds2 y1 y2 T2) _;exact aA.au) ?_
 rintro⟨i,A7,c7⟩ hi;dsimp only at hi ⊢;rcases Nat.lt_or_ge i out.length with h|h
 rotate_left
 ·obtain rfl:i=out.length:=oo;rw[List.take_of_length_le (Nat.le_refl _)];refine aB;exact aM (S':=aF7 A7 c7 (out.flatMap aDn)::drH d g A n c lost l1 (told+(out.length:Nat))::tB g s2 a2 ds2 y1 y2 T2) rfl rfl aA.au ⟨A7,c7,a2,ds2,y1,y2,T2,rfl,rfl,hI2⟩
 have hm:out.getD i default∈out:=by rw[List.getD_eq_getElem?_getD,List.getElem?_eq_getElem h];exact List.getElem_mem ..
 obtain⟨hf1,hf2,-⟩:=hof _ hm;have hfl:=bG5 hf2;have hti:=htk i h;have hbi:=hbl i;refine zB (A:=A5) (m:=out.length) (cc:=c5) oo (fun ga hga=>?_);subst hga;refine aB;refine lf rfl rfl rfl (S:=[]) (fun w hw ho=>bG6 (out.getD i default) hf1 w) ?_;rintro v S' ⟨A6,c6,rfl,rfl⟩;rw[hf2];refine aB;rename_i A8 c8;exact aR (i+1,A8,c8) (by show i+1≤out.length;omega) (by show out.length-(i+1)<out.length-i;omega) ⟨rfl,by simp only[hti];rfl,rfl,rfl,by simp[aI],trivial⟩ (by simp only[hti];rw[show told+((i+1:Nat):Int)=told+(i:Int)+1 by omega];exact aA.au)
theorem NvI.up{ys f:List Int}{k k2:Nat}{b b2:Int}{s:aK}{a:bQ}{ds:List jT}{x1 x2:gX}{T:List HE}(h:NvI ys f k b s a ds x1 x2 T)(hk:k≤k2)(hb:b≤b2):NvI ys f k2 b2 s a ds x1 x2 T:=⟨h.ok.up hk,h.near,h.dl,h.g,h.n,h.ca.mono rfl hb⟩
@[reducible] def aPo(bo bd d:Nat)(A:Option Addr)(c:Nat)(xs:List Int)(T:List HE):List HE:=.blk bo 34 [.slice A xs.length c]::aF7 A c xs::.blk bd 46 [.pointer (some ⟨d,0,none⟩)]::T
section
variable (W H:Nat) (f:List Int)
theorem bGt(s:aK)(fs:List lM)(i:Nat)(h:i<fs.length):aE4 W H f s (fs.take (i+1))=((nW W H f (aE4 W H f s (fs.take i)).1 (fs.getD i default)).1,(aE4 W H f s (fs.take i)).2++(nW W H f (aE4 W H f s (fs.take i)).1 (fs.getD i default)).2):=by rw[List.take_succ_eq_append_getElem h,bEa,List.getD_eq_getElem?_getD,List.getElem?_eq_getElem h];simp[aE4]
end
def DpR(ys f:List Int)(k:Nat)(b:Int)(bo bd d g:Nat)(A:Option Addr)(n c:Nat)(lost:Int)(l:List lM)(told:Int)(xs:List Int)(r:aK×List lM)(v:Value)(S':List HE):Prop :=
 ∃Ao co a2 ds2 y1 y2 T2,v=.tuple #[]∧S'=aPo bo bd d Ao co (xs++r.2.flatMap aDn) (drH d g A n c lost l (told+(r.2.length:Nat))::tB g r.1 a2 ds2 y1 y2 T2)∧NvI ys f k b r.1 a2 ds2 y1 y2 T2
theorem bFh(ys f:List Int)(bo bd d g k:Nat)(s:aK)(a:bQ)(ds:List jT)(x1 x2:gX)(T:List HE)(x:lM)(b:Int)(A:Option Addr)(n c:Nat)(lost:Int)(l:List lM)(told:Int)(Ao:Option Addr)(co:Nat)(xs:List Int)(w:World)(hown:aZ (aPo bo bd d Ao co xs (drH d g A n c lost l told::tB g s a ds x1 x2 T)) w)(hI:NvI ys f k b s a ds x1 x2 T)(hx:x.ok)(hxk:1≤x.kind∧x.kind≤7)(hk:k≤10000000)(hb:b≤200000000000000000)(hl:l.length≤1000000)(htd:0≤told∧told≤10000000)(hxs:xs.length≤100000000):
  aF prog 54 [.agg (dU x).toArray,.pointer (some ⟨bo,0,none⟩),.pointer (some ⟨bd,0,none⟩)] (aPo bo bd d Ao co xs (drH d g A n c lost l told::tB g s a ds x1 x2 T)) w (fun v S'=>DpR ys f (k+1) (b+6000000) bo bd d g A n c lost (l++[x]) told xs (nW (wY ys) (hY ys) f s x) v S'):=by
 obtain⟨-,htl⟩:=bBk (W:=wY ys) (H:=hY ys) (f:=f) s x;have hok2:=bBj (W:=wY ys) (H:=hY ys) (f:=f) hI.ok hI.near hx oo;obtain⟨hol,hof⟩:=bEb htl hok2;have hbl:=bCy _ (fun y hy=>(hof y hy).2.1);have hTk:=fun w ho=>bFr ys f d g k s a ds x1 x2 T x b A n c lost l told w ho hI hx hxk hk hb hl htd;generalize nW (wY ys) (hY ys) f s x=r at *;refine aJ func54 rfl ntmps54 rfl hown (fun _=>?_);simp only[aG];refine aB;rename_i b3;refine dM [.blk b3 59 (dU x),.blk bd 46 [.pointer (some ⟨d,0,none⟩)]] [false,true,true,false,false,false] [0,3,4,5] aA.au rfl od bD ?_;repeat' (first|refine fN rfl rfl rfl ?_|(refine fM rfl rfl rfl ?_ ?_;(next=>first|exact trivial|omega))|refine fC ?_)
 refine fX ?_;intro _;refine cE;all_goals refine fO (S:=drH d g A n c lost l told::tB g s a ds x1 x2 T) rfl rfl aC.au rfl (fun w hw ho=>hTk w ho) ?_
 all_goals rintro v S' ⟨A3,c3,a2,ds2,y1,y2,T2,rfl,rfl,hI2⟩
 all_goals refine aCr ?_
 all_goals simp only[List.cons_append,List.nil_append]
 all_goals refine cE
 all_goals rename_i A9 c9
 all_goals exact nN (S':=aPo bo bd d A9 c9 (xs++r.2.flatMap aDn) (drH d g A n c lost (l++[x]) (told+(r.2.length:Nat))::tB g r.1 a2 ds2 y1 y2 T2)) rfl aA.au ⟨A9,c9,a2,ds2,y1,y2,T2,rfl,rfl,hI2⟩
def DeR(ys f:List Int)(k:Nat)(b:Int)(bo bd d g:Nat)(A:Option Addr)(n c:Nat)(lost:Int)(l:List lM)(told:Int)(r:aK×List lM)(v:Value)(S':List HE):Prop :=
 ∃Ao co a2 ds2 y1 y2 T2,v=.tuple #[]∧S'=aPo bo bd d Ao co (r.2.flatMap aDn) (drH d g A n c lost l (told+(r.2.length:Nat))::tB g r.1 a2 ds2 y1 y2 T2)∧NvI ys f k b r.1 a2 ds2 y1 y2 T2
theorem bFc(ys f:List Int)(bo bd d g k:Nat)(s:aK)(a:bQ)(ds:List jT)(x1 x2:gX)(T:List HE)(b:Int)(A:Option Addr)(n c:Nat)(lost:Int)(l:List lM)(told:Int)(Af:Option Addr)(cf:Nat)(fs:List lM)(w:World)(hown:aZ (aPo bo bd d none 0 [] (drH d g A n c lost l told::tB g s a ds x1 x2 T)) w)
  (hr:bP w (bB (aPo bo bd d none 0 [] (drH d g A n c lost l told::tB g s a ds x1 x2 T))) Af fs.length cf 6 (aO dU fs)) (hI:NvI ys f k b s a ds x1 x2 T) (hx:∀x∈fs,x.ok∧1≤x.kind∧x.kind≤7) (hk:k+fs.length≤100000) (hb:b≤6000000*(k:Int)) (hl:l.length≤100000) (htd:0≤told∧told≤1000000) :
  aF prog 56 [.slice Af fs.length cf,.func (.func 54) #[] #[.pointer (some ⟨bo,0,none⟩),.pointer (some ⟨bd,0,none⟩)]] (aPo bo bd d none 0 [] (drH d g A n c lost l told::tB g s a ds x1 x2 T)) w (fun v S'=>DeR ys f (k+fs.length) (b+6000000*(fs.length:Int)) bo bd d g A n c lost (l++fs) told (aE4 (wY ys) (hY ys) f s fs) v S'):=by
 have hro:=fun i=>bDp (wY ys) (hY ys) f (fs.take i) s k (fun x hx'=>(hx x (List.mem_of_mem_take hx')).1) hI.ok hI.near (by rw[List.length_take];omega);have hrs:=bGt (wY ys) (hY ys) f s fs;refine aJ func56 rfl ntmps56 rfl hown (fun _=>?_);simp only[aG];refine aB;refine cG (X:=Nat×(Option Addr×Nat)×bQ×List jT×gX×gX×List HE) (fun q=>q.1≤fs.length∧NvI ys f (k+q.1) (b+6000000*(q.1:Int)) (aE4 (wY ys) (hY ys) f s (fs.take q.1)).1 q.2.2.1 q.2.2.2.1 q.2.2.2.2.1 q.2.2.2.2.2.1 q.2.2.2.2.2.2)
  (fun q=>[(1,.func (.func 54) #[] #[.pointer (some ⟨bo,0,none⟩),.pointer (some ⟨bd,0,none⟩)]),(6,.slice Af fs.length cf),(7,.int .i64 fs.length),(8,.int .i64 q.1)])
  (fun q=>aPo bo bd d q.2.1.1 q.2.1.2 ((aE4 (wY ys) (hY ys) f s (fs.take q.1)).2.flatMap aDn) (drH d g A n c lost (l++fs.take q.1) (told+((aE4 (wY ys) (hY ys) f s (fs.take q.1)).2.length:Nat))::tB g (aE4 (wY ys) (hY ys) f s (fs.take q.1)).1 q.2.2.1 q.2.2.2.1 q.2.2.2.2.1 q.2.2.2.2.2.1 q.2.2.2.2.2.2)) (fun q=>fs.length-q.1) (0,(none,0),a,ds,x1,x2,T) ⟨Nat.zero_le _,by simpa [aE4] using hI⟩ ⟨rfl,rfl,rfl,rfl,trivial⟩ (by dsimp only[List.take_zero,aE4,List.flatMap_nil];rw[List.append_nil,show told+((([]:List lM).length:Nat):Int)=told by simp];exact aA.refl _) ?_
 rintro⟨i,⟨A1,c1⟩,a1,ds1,y1,y2,T1⟩ ⟨hi,hI1⟩;dsimp only at hi hI1 ⊢;rcases Nat.lt_or_ge i fs.length with h|h
 rotate_left
 ·obtain rfl:i=fs.length:=oo;rw[List.take_of_length_le (Nat.le_refl _)]at hI1 ⊢;refine aB;exact nN (S':=aPo bo bd d A1 c1 ((aE4 (wY ys) (hY ys) f s fs).2.flatMap aDn) (drH d g A n c lost (l++fs) (told+((aE4 (wY ys) (hY ys) f s fs).2.length:Nat))::tB g (aE4 (wY ys) (hY ys) f s fs).1 a1 ds1 y1 y2 T1)) rfl aA.au ⟨A1,c1,a1,ds1,y1,y2,T1,rfl,rfl,hI1⟩
 obtain⟨bL,oL,rfl,hLr⟩:=hr.at_ (by omega:0<fs.length);have hfx:(fs.getD i default).ok∧1≤(fs.getD i default).kind∧(fs.getD i default).kind≤7:=by rw[List.getD_eq_getElem?_getD,List.getElem?_eq_getElem h];exact hx _ (List.getElem_mem h)
 obtain⟨-,-,hr3,hr4⟩:=hro i;have hri:=hrs i h;have htl:(fs.take i).length=i:=by rw[List.length_take];omega
 have hbl:=bCy _ (fun y hy=>(hr4 y hy).2.1);rw[htl]at hr3;have hlt:(l++fs.take (i+1))=(l++fs.take i)++[fs.getD i default]:=by rw[List.take_succ_eq_append_getElem h,List.append_assoc,List.getD_eq_getElem?_getD,List.getElem?_eq_getElem h];rfl
 have hll:(l++fs.take i).length≤1000000:=by rw[List.length_append,htl];omega
 have hPt:=fun w ho=>bFh ys f bo bd d g (k+i) (aE4 (wY ys) (hY ys) f s (fs.take i)).1 a1 ds1 y1 y2 T1 (fs.getD i default) (b+6000000*(i:Int)) A n c lost (l++fs.take i) (told+((aE4 (wY ys) (hY ys) f s (fs.take i)).2.length:Nat)) A1 c1 ((aE4 (wY ys) (hY ys) f s (fs.take i)).2.flatMap aDn) w ho hI1 hfx.1 hfx.2 oo oo hll oo oo;refine aB;refine lb (f:=54) (first:=#[]) (captured:=#[.pointer (some ⟨bo,0,none⟩),.pointer (some ⟨bd,0,none⟩)]) (S:=aPo bo bd d A1 c1 ((aE4 (wY ys) (hY ys) f s (fs.take i)).2.flatMap aDn) (drH d g A n c lost (l++fs.take i) (told+((aE4 (wY ys) (hY ys) f s (fs.take i)).2.length:Nat))::tB g (aE4 (wY ys) (hY ys) f s (fs.take i)).1 a1 ds1 y1 y2 T1)) rfl rfl rfl rfl (fun w hw ho=>hPt w ho) ?_;rintro v S' ⟨A3,c3,a2,ds2,z1,z2,T2,rfl,rfl,hI2⟩;refine aCr ?_;simp only[List.cons_append,List.nil_append];refine aB;refine aR (i+1,(A3,c3),a2,ds2,z1,z2,T2) ⟨h,by rw[hri];exact hI2.up oo (by push_cast;omega)⟩ (by show fs.length-(i+1)<fs.length-i;omega) ⟨rfl,rfl,rfl,by simp[aI],trivial⟩ ?_;dsimp only;rw[hri,hlt];dsimp only;rw[List.flatMap_append,List.length_append];generalize (nW (wY ys) (hY ys) f (aE4 (wY ys) (hY ys) f s (fs.take i)).1 (fs.getD i default))=r2 at *;rw[show told+(((aE4 (wY ys) (hY ys) f s (fs.take i)).2.length+r2.2.length:Nat):Int)=told+((aE4 (wY ys) (hY ys) f s (fs.take i)).2.length:Nat)+(r2.2.length:Nat) by push_cast;omega];exact aA.au
@[reducible] def bDe(bo bd d:Nat)(T:List HE):List HE:=.blk bo 34 [.slice none 0 0]::.row (.slice none 0 0) 5 1 0 []::.blk bd 46 [.pointer (some ⟨d,0,none⟩)]::T
def DvR(ys f:List Int)(k:Nat)(b:Int)(d g:Nat)(lost:Int)(l:List lM)(told:Int)(fd:List lM×Nat×List Int)(r:aK×List lM)(v:Value)(S':List HE):Prop :=
 ∃Ao co A c a2 ds2 y1 y2 T2,v=.slice Ao (r.2.flatMap aDn).length co∧S'=aF7 Ao co (r.2.flatMap aDn)::drH d g A fd.2.2.length c (lost+(fd.2.1:Nat)) (l++fd.1) (told+(r.2.length:Nat))::aF7 A c fd.2.2::tB g r.1 a2 ds2 y1 y2 T2∧NvI ys f (k+fd.1.length) (b+6000000*(fd.1.length:Int)) r.1 a2 ds2 y1 y2 T2
theorem bDi(ys f:List Int)(d g k:Nat)(s:aK)(a:bQ)(ds:List jT)(x1 x2:gX)(T:List HE)(b:Int)(A:Option Addr)(c:Nat)(wt:List Int)(lost:Int)(l:List lM)(told:Int)(B:Option Addr)(e:Nat)(bs:List Int)(w:World)(hown:aZ (drH d g A wt.length c lost l told::aF7 A c wt::tB g s a ds x1 x2 T) w)
  (hr:bP w (bB (drH d g A wt.length c lost l told::aF7 A c wt::tB g s a ds x1 x2 T)) B bs.length e 1 (aD .u8 bs)) (hI:NvI ys f k b s a ds x1 x2 T) (hu:dL wt) (hub:dL bs) (hm:wt.length+bs.length≤100000) (hlo:0≤lost∧lost≤1000000) (hk:k≤10000) (hb:b≤6000000*(k:Int)) (hl:l.length≤100000) (htd:0≤told∧told≤1000000) :
  aF prog 16 [.pointer (some ⟨d,0,none⟩),.slice B bs.length e] (drH d g A wt.length c lost l told::aF7 A c wt::tB g s a ds x1 x2 T) w (fun v S'=>DvR ys f k b d g lost l told (aDg (wt++bs)) (aE4 (wY ys) (hY ys) f s (aDg (wt++bs)).1) v S'):=by
 obtain⟨hx,hxl,-,-⟩:=bD9 (wt++bs).length (wt++bs) (Nat.le_refl _) (dL.app hu hub);rw[List.length_append]at hxl;refine aJ func16 rfl ntmps16 rfl hown (fun _=>?_);simp only[aG];refine aB;rename_i bd bo;refine lf rfl rfl rfl (S:=[drH d g A wt.length c lost l told,aF7 A c wt]) (fun w hw ho=>bGj d _ _ _ lost A c wt B e bs w ho ⟨hr.h.go hw aC.au⟩ hu hub oo oo) ?_;rintro v S' ⟨A2,c2,A3,c3,rfl,rfl⟩;simp only[List.cons_append,List.nil_append];generalize aDg (wt++bs)=fd at *;obtain⟨fs,ps,rs⟩:=fd;dsimp only at hx hxl ⊢;refine aB;refine dH (e:=5) (size:=1) ?_;have hE:∀(w:World) (ho:aZ (bDe bo bd d (drH d g A2 rs.length c2 (lost+(ps:Nat)) l told::tB g s a ds x1 x2 T)) w) (hr:bP w (bB (bDe bo bd d (drH d g A2 rs.length c2 (lost+(ps:Nat)) l told::tB g s a ds x1 x2 T))) A3 fs.length c3 6 (aO dU fs)),aF prog 56 [.slice A3 fs.length c3,.func (.func 54) #[] #[.pointer (some ⟨bo,0,none⟩),.pointer (some ⟨bd,0,none⟩)]] (bDe bo bd d (drH d g A2 rs.length c2 (lost+(ps:Nat)) l told::tB g s a ds x1 x2 T)) w (fun v S'=>DeR ys f (k+fs.length) (b+6000000*(fs.length:Int)) bo bd d g A2 rs.length c2 (lost+(ps:Nat)) (l++fs) told (aE4 (wY ys) (hY ys) f s fs) v S') :=
  fun w ho hr=>bFc ys f bo bd d g k s a ds x1 x2 T b A2 rs.length c2 (lost+(ps:Nat)) l told A3 c3 fs w ho hr hI hx oo hb hl htd
 generalize aE4 (wY ys) (hY ys) f s fs=r at *;refine jP (H':=bDd A3 c3 fs::aF7 A2 c2 rs::bDe bo bd d (drH d g A2 rs.length c2 (lost+(ps:Nat)) l told::tB g s a ds x1 x2 T)) (by exact aA.au) ?_;refine fO (S:=bDe bo bd d (drH d g A2 rs.length c2 (lost+(ps:Nat)) l told::tB g s a ds x1 x2 T)) rfl rfl (aC.preT _ [_,_]) rfl (fun w hw ho=>hE w ho ⟨Ro.row hw (aC.preT _ [_,_]) (by refine cF)⟩) ?_;rintro v S' ⟨A4,c4,a2,ds2,z1,z2,T2,rfl,rfl,hI2⟩;refine aCr ?_;simp only[List.cons_append,List.nil_append];refine aB;exact aM (S':=aF7 A4 c4 (r.2.flatMap aDn)::drH d g A2 rs.length c2 (lost+(ps:Nat)) (l++fs) (told+(r.2.length:Nat))::aF7 A2 c2 rs::tB g r.1 a2 ds2 z1 z2 T2) rfl rfl aA.au ⟨A4,c4,A2,c2,a2,ds2,z1,z2,T2,rfl,rfl,hI2⟩
theorem bGo(A:Option Addr)(c n:Nat)(ys:List Int)(a:Int)(i size:Nat)(hi:a=i)(w:World)(hl:ys.length=n)(hr:bP w (bB []) A n c 1 (aD .u8 ys))(hu:dL ys)(hs:1≤size∧size≤8)(ha:i+size≤n)(hm:n<1000000000):
  aF prog 92 [.slice A n c,.int .i64 a,.int .i64 size] [] w (fun v S'=>v=.tuple #[.int .u64 (dN ys i size:Nat),.int .i64 0]∧S'=[]):=by
 subst hi hl;refine aJ func92 rfl ntmps92 rfl ⟨aE,.nil⟩ (fun _=>?_);simp only[aG];obtain⟨bA,oA,rfl,hA⟩:=hr.at_ (by omega:0<ys.length);have iA:∀w0 W H t u a b,MS prog w0 W H (.binOp .lss t a b u) [.int .i64 ((i:Nat):Int),.int .i64 0] (.bool false) True:=fun _ _ _ _ _ _ _=>cD inferInstance trivial (congrArg Value.bool (decide_eq_false oo));have iB:∀w0 W H t u a b,MS prog w0 W H (.binOp .gtr t a b u) [.int .i64 ((i:Nat):Int),.int .i64 (ys.length:Nat)] (.bool false) True:=fun _ _ _ _ _ _ _=>cD inferInstance trivial (congrArg Value.bool (decide_eq_false oo));have iC:∀w0 W H t u a b,MS prog w0 W H (.binOp .lss t a b u) [.int .i64 ((size:Nat):Int),.int .i64 0] (.bool false) True:=fun _ _ _ _ _ _ _=>cD inferInstance trivial (congrArg Value.bool (decide_eq_false oo));have iD:∀w0 W H t u a b,MS prog w0 W H (.binOp .gtr t a b u) [.int .i64 ((size:Nat):Int),.int .i64 8] (.bool false) True:=fun _ _ _ _ _ _ _=>cD inferInstance trivial (congrArg Value.bool (decide_eq_false oo));have iE:∀w0 W H t u a b,MS prog w0 W H (.binOp .gtr t a b u) [.int .i64 ((size:Nat):Int),.int .i64 ((ys.length:Nat)-(i:Nat))] (.bool false) True:=fun _ _ _ _ _ _ _=>cD inferInstance trivial (congrArg Value.bool (decide_eq_false oo));refine aB;refine cG (X:=Nat) (fun j=>j≤size) (fun j=>[(0,.slice (some ⟨bA,oA,none⟩) ys.length c),(1,.int .i64 i),(8,.int .u64 (dN ys (i+j) (size-j):Nat)),(9,.int .i64 ((j:Int)-1))]) (fun _=>[]) (fun j=>j) size (Nat.le_refl _) ⟨rfl,rfl,by rw[Nat.sub_self];simp[aI,dN,pD,nP],rfl,trivial⟩ (.nil _) ?_;intro j hj;rcases Nat.eq_zero_or_pos j with h|h
 ·subst h;refine aB;all_goals first
   | exact cY rfl rfl rfl (.nil _) ⟨by rw[Nat.add_zero,Nat.sub_zero],rfl⟩
   | (exfalso;omega)
 ·obtain⟨m,rfl⟩:∃m,j=m+1:=⟨j-1,oo⟩;have hlt:=sB hu (a:=i+(m+1)) (n:=size-(m+1)) oo;have h7:256^(size-(m+1))≤256^7:=Nat.pow_le_pow_right oo oo;have hf:=bGg (ys:=ys) (a:=i+m) (n:=size-(m+1)) oo;rw[show size-(m+1)+1=size-m by omega,show i+m+1=i+(m+1) by omega]at hf;have hy:=aKb hu (i+m);have e1:((m+1:Nat):Int)-1=(m:Nat):=oo;have e2:((i:Nat):Int)+((m:Nat):Int)=((i+m:Nat):Int):=oo;rw[e1];generalize dN ys (i+(m+1)) (size-(m+1))=x at *;have iS:∀w0 W H t u a b,MS prog w0 W H (.binOp .add t a b u) [.int .i64 ((i:Nat):Int),.int .i64 ((m:Nat):Int)] (.int .i64 ((i+m:Nat):Int)) True:=fun _ _ _ _ _ _ _=>cD inferInstance (by show (-9223372036854775808:Int)≤_∧_≤(9223372036854775807:Int);omega) (congrArg (Value.int .i64) e2);refine aB;all_goals first
   | (exfalso;omega)
   | exact aR m (by show m≤size;omega) (by show m<m+1;omega) ⟨rfl,rfl,by simp only[aI];exact congrArg (fun z=>some (Value.int .u64 z)) oo,by simp[aI],trivial⟩ (.nil _)
theorem bGn(f:lM)(hf:f.ok)(w:World):aF prog 50 [.agg (dU f).toArray] [] w (FpR f):=by
 have iN:=bE9 f.kind;have hnu:=aTf f.kind;refine aJ func50 rfl ntmps50 rfl ⟨aE,.nil⟩ (fun n=>?_);simp only[aG];by_cases hn:aD1 f.kind<0
 ·have e:aGl f=13:=if_pos hn;have e2:=bDo (f:=f) (by rw[e];decide);unfold FpR;rw[e,e2];have iA:∀w0 W H t u a b,MS prog w0 W H (.binOp .lss t a b u) [.int .i64 (aD1 f.kind),.int .i64 0] (.bool true) True:=fun _ _ _ _ _ _ _=>cD inferInstance trivial (congrArg Value.bool (decide_eq_true oo));refine dH (e:=5) (size:=1) ?_;refine aB;exact cY (S':=[.row (.slice none 0 0) 5 1 0 []]) rfl rfl rfl aA.au ⟨none,0,rfl,rfl⟩
 have hc0:=bBx (f:=f);have hq:aD1 f.kind=0∨aD1 f.kind=1∨aD1 f.kind=2∨aD1 f.kind=3:=oo;have hkd:=bD4 hn;obtain⟨k,s,t,a,b,c⟩:=f;obtain⟨-,hs,ht,ha,hb,hc⟩:=hf;have hs:0≤s∧s≤65535:=hs;have ht:0≤t∧t≤4294967295:=ht;have ha : -2147483648≤a∧a≤2147483647:=ha;have hb : -2147483648≤b∧b≤2147483647:=hb;have hc : -2147483648≤c∧c≤2147483647:=hc;dsimp only at iN hnu hn hq hkd;by_cases hz:aGl ⟨k,s,t,a,b,c⟩=0
 rotate_left
 ·have e2:=bDo hz;have e:aGl ⟨k,s,t,a,b,c⟩=1∧((aD1 k<3∧c≠0)∨(aD1 k<2∧b≠0)∨(aD1 k<1∧a≠0)):=by
   unfold aGl at hz ⊢;dsimp only at hz ⊢;rw[if_neg hn]at hz ⊢;by_cases hh:(aD1 k<3∧c≠0)∨(aD1 k<2∧b≠0)∨(aD1 k<1∧a≠0)
   ·exact⟨if_pos hh,hh⟩
   ·rw[if_neg hh]at hz;exact absurd rfl hz
  obtain⟨e,hh⟩:=e;unfold FpR;rw[e,e2];refine dH (e:=5) (size:=1) ?_;rcases hq with q|q|q|q;all_goals rw[q]at iN hh
  ·refine aB;all_goals first
    | exact cY (S':=[.row (.slice none 0 0) 5 1 0 []]) rfl rfl rfl aA.au ⟨none,0,rfl,rfl⟩
    | (exfalso;simp_all;done)
  ·refine aB;all_goals first
    | exact cY (S':=[.row (.slice none 0 0) 5 1 0 []]) rfl rfl rfl aA.au ⟨none,0,rfl,rfl⟩
    | (exfalso;simp_all;done)
  ·refine aB;all_goals first
    | exact cY (S':=[.row (.slice none 0 0) 5 1 0 []]) rfl rfl rfl aA.au ⟨none,0,rfl,rfl⟩
    | (exfalso;simp_all;done)
  ·exfalso;omega
 ·have hzz:=hz;unfold aGl at hzz;dsimp only at hzz;rw[if_neg hn]at hzz;have hh:¬((aD1 k<3∧c≠0)∨(aD1 k<2∧b≠0)∨(aD1 k<1∧a≠0)):=fun q=>by rw[if_pos q]at hzz;exact absurd hzz od
  obtain⟨s,rfl⟩:=Int.eq_ofNat_of_zero_le hs.1;obtain⟨t,rfl⟩:=Int.eq_ofNat_of_zero_le ht.1;have hB:aDn ⟨k,(s:Nat),(t:Nat),a,b,c⟩=kI (aL9 ⟨k,(s:Nat),(t:Nat),a,b,c⟩):=if_pos hz;have hbu:=bDw (f:=⟨k,(s:Nat),(t:Nat),a,b,c⟩) hn;have hbl:(aL9 ⟨k,(s:Nat),(t:Nat),a,b,c⟩).length+4=aFb k:=bDv ⟨k,(s:Nat),(t:Nat),a,b,c⟩ hn;have hsz:=(aP6 hn).2.1;have hbd:aL9 ⟨k,(s:Nat),(t:Nat),a,b,c⟩=[126,k]++cX s 2++cX t 4++([a,b,c].take (aD1 k).toNat).flatMap fun x=>cX (qG x) 4:=by unfold aL9 aUb;dsimp only;rw[Int.toNat_natCast,Int.toNat_natCast,List.append_assoc ([126,k]++cX s 2)];rfl
  unfold FpR;rw[hz,hB];generalize aL9 ⟨k,(s:Nat),(t:Nat),a,b,c⟩=bd at *;have l1:=eL s 2;have l2:=eL t 4;have l3:=eL (qG a) 4;have l4:=eL (qG b) 4;have l5:=eL (qG c) 4;have hu1:=zW a;have hu2:=zW b;have hu3:=zW c;have ik:∀(w0:World) (W:Nat→Prop) (H:List HE) (x:Operand),MS prog w0 W H (.convert 3 5 x) [.int .i64 k] (.int .u8 k) True:=fun _ _ _ _=>cD inferInstance (by show (0:Int)≤k∧k≤(255:Int);omega) rfl;have iAp:yN [.int .u8 126,.int .u8 k] (aD .u8 (cX s 2)) (aD .u8 ([126,k]++cX s 2)):=⟨rfl⟩;have m1:([126,k]++cX s 2).length=4:=by simp[eL]
  have m2:([126,k]++cX s 2++cX t 4).length=8:=by simp[eL]
  have m3:([126,k]++cX s 2++cX t 4++cX (qG a) 4).length=12:=by simp[eL]
  have m4:([126,k]++cX s 2++cX t 4++cX (qG a) 4++cX (qG b) 4).length=16:=by simp[eL]
  have m5:([126,k]++cX s 2++cX t 4++cX (qG a) 4++cX (qG b) 4++cX (qG c) 4).length=20:=by simp[eL]
  rcases hq with q|q|q|q
  ·have hc0:c=0:=oo;have hb0:b=0:=oo;have ha0:a=0:=oo;subst hc0 hb0 ha0;rw[q]at iN hbd;refine aB;refine lf rfl rfl rfl (S:=[]) (fun w hw ho=>aP4 s 2 w oo od) ?_;rintro v S' ⟨A2,c2,rfl,rfl⟩;refine aB;refine lf rfl rfl rfl (S:=[]) (fun w hw ho=>aP4 t 4 w oo od) ?_;rintro v S' ⟨A2,c2,rfl,rfl⟩;refine aB;have e:[126,k]++cX s 2++cX t 4=bd:=by rw[hbd];simp
   rw[e];refine lf rfl rfl rfl (S:=[]) (fun w hw ho=>bDf _ _ bd w ⟨Ro.row hw (aC.nil _) (by refine cF)⟩ hbu oo) ?_;rintro v S' ⟨A9,c9,rfl,rfl⟩;refine aB;exact cY rfl rfl rfl aA.au ⟨_,_,rfl,rfl⟩
  ·have hc0:c=0:=oo;have hb0:b=0:=oo;subst hc0 hb0;rw[q]at iN hbd;refine aB;refine lf rfl rfl rfl (S:=[]) (fun w hw ho=>aP4 s 2 w oo od) ?_;rintro v S' ⟨A2,c2,rfl,rfl⟩;refine aB;refine lf rfl rfl rfl (S:=[]) (fun w hw ho=>aP4 t 4 w oo od) ?_;rintro v S' ⟨A2,c2,rfl,rfl⟩;refine aB;refine lf rfl rfl rfl (S:=[]) (fun w hw ho=>aP4 (qG a) 4 w oo od) ?_;rintro v S' ⟨A2,c2,rfl,rfl⟩;refine aB;have e:[126,k]++cX s 2++cX t 4++cX (qG a) 4=bd:=by rw[hbd];simp
   rw[e];refine lf rfl rfl rfl (S:=[]) (fun w hw ho=>bDf _ _ bd w ⟨Ro.row hw (aC.nil _) (by refine cF)⟩ hbu oo) ?_;rintro v S' ⟨A9,c9,rfl,rfl⟩;refine aB;exact cY rfl rfl rfl aA.au ⟨_,_,rfl,rfl⟩
  ·have hc0:c=0:=oo;subst hc0;rw[q]at iN hbd;refine aB;refine lf rfl rfl rfl (S:=[]) (fun w hw ho=>aP4 s 2 w oo od) ?_;rintro v S' ⟨A2,c2,rfl,rfl⟩;refine aB;refine lf rfl rfl rfl (S:=[]) (fun w hw ho=>aP4 t 4 w oo od) ?_;rintro v S' ⟨A2,c2,rfl,rfl⟩;refine aB;refine lf rfl rfl rfl (S:=[]) (fun w hw ho=>aP4 (qG a) 4 w oo od) ?_;rintro v S' ⟨A2,c2,rfl,rfl⟩;refine aB;refine lf rfl rfl rfl (S:=[]) (fun w hw ho=>aP4 (qG b) 4 w oo od) ?_;rintro v S' ⟨A2,c2,rfl,rfl⟩;refine aB;have e:[126,k]++cX s 2++cX t 4++cX (qG a) 4++cX (qG b) 4=bd:=by rw[hbd];simp
   rw[e];refine lf rfl rfl rfl (S:=[]) (fun w hw ho=>bDf _ _ bd w ⟨Ro.row hw (aC.nil _) (by refine cF)⟩ hbu oo) ?_;rintro v S' ⟨A9,c9,rfl,rfl⟩;refine aB;exact cY rfl rfl rfl aA.au ⟨_,_,rfl,rfl⟩
  ·rw[q]at iN hbd;refine aB;refine lf rfl rfl rfl (S:=[]) (fun w hw ho=>aP4 s 2 w oo od) ?_;rintro v S' ⟨A2,c2,rfl,rfl⟩;refine aB;refine lf rfl rfl rfl (S:=[]) (fun w hw ho=>aP4 t 4 w oo od) ?_;rintro v S' ⟨A2,c2,rfl,rfl⟩;refine aB;refine lf rfl rfl rfl (S:=[]) (fun w hw ho=>aP4 (qG a) 4 w oo od) ?_;rintro v S' ⟨A2,c2,rfl,rfl⟩;refine aB;refine lf rfl rfl rfl (S:=[]) (fun w hw ho=>aP4 (qG b) 4 w oo od) ?_;rintro v S' ⟨A2,c2,rfl,rfl⟩;refine aB;refine lf rfl rfl rfl (S:=[]) (fun w hw ho=>aP4 (qG c) 4 w oo od) ?_;rintro v S' ⟨A2,c2,rfl,rfl⟩;refine aB;have e:[126,k]++cX s 2++cX t 4++cX (qG a) 4++cX (qG b) 4++cX (qG c) 4=bd:=by rw[hbd];simp
   rw[e];refine lf rfl rfl rfl (S:=[]) (fun w hw ho=>bDf _ _ bd w ⟨Ro.row hw (aC.nil _) (by refine cF)⟩ hbu oo) ?_;rintro v S' ⟨A9,c9,rfl,rfl⟩;refine aB;exact cY rfl rfl rfl aA.au ⟨_,_,rfl,rfl⟩
end Go.Proofs.YtbhchphfmhmabaaGreat
namespace Go.Proofs.YtbhchphfmhmabaaGreat
open Go.RowKit _root_.Go.Proofs.Tryz
instance (priority:=95) frmIx{P:Program}{w0:World}{W:Nat→Prop}{H:List HE}(x y:Operand)(t e m b q sz j r r':Nat)(k:IntKind)(a:Int)[hu:aN P t (.array m e)][hI:rO P e sz][ha:vP a j][hm:rL j sz r][hr:nG q r r']:MS P w0 W H (.indexAddr t x y) [.pointer (some ⟨b,q,none⟩),.int k a] (.pointer (some ⟨b,r',none⟩)) (j<m):=by have h0:MS P w0 W H (.indexAddr t x y) [.pointer (some ⟨b,q,none⟩),.int k (j:Int)] (.pointer (some ⟨b,r',none⟩)) (j<m):=inferInstance;rw[ha.h];exact h0
theorem bFa{s:List Int}{n:Nat}(hl:s.length=n)(h4:4≤n):kI (s.take (n-4))=s↔pM s:=by
 constructor
 ·intro h;have:=aJh (s.take (n-4))
  rwa [h]at this
 ·intro h;have:=aSl h;rw[hl]at this;exact this.symm
theorem bCx(A:Option Addr)(c n:Nat)(ys:List Int)(a:Int)(i k size:Nat)(hi:a=i+k)(w:World)(hl:ys.length=n)(hr:bP w (bB []) A n c 1 (aD .u8 ys))(hu:dL ys)(hs:1≤size∧size≤8)(ha:i+k+size≤n)(hm:n<1000000000):
  aF prog 92 [.slice A n c,.int .i64 a,.int .i64 size] [] w (fun v S'=>v=.tuple #[.int .u64 (dN (ys.drop i) k size:Nat),.int .i64 0]∧S'=[]):=by
 rw[bGf];exact bGo A c n ys a (i+k) size oo w hl hr hu hs ha hm
theorem bGk(A:Option Addr)(c m:Nat)(ys:List Int)(w:World)(hl:ys.length=m)(hr:bP w (bB []) A m c 1 (aD .u8 ys))(hu:dL ys)(hm:m<1000000000):
  aF prog 90 [.slice A m c] [] w (fun v S'=>∃A' c',v=.slice A' (kI ys).length c'∧S'=[.row (.slice A' (kI ys).length c') 5 1 (kI ys).length (aD .u8 (kI ys))]):=by
 subst hl;exact bDf A c ys w hr hu hm
attribute [local irreducible] OJ J bM Code.wpIn wpListIn Oper.wpIn bodyPost CallsIn aF
theorem bGm(A:Option Addr)(c n:Nat)(ys:List Int)(i:Nat)(w:World)(hl:ys.length=n)(hi:i≤n)(hr:bP w (bB []) A n c 1 (aD .u8 ys))(hu:dL ys)(hm:n<100000000):
  aF prog 51 [.slice A n c,.int .i64 i] [] w (FiR (ys.drop i)):=by
 subst hl;have hzl:(ys.drop i).length=ys.length-i:=List.length_drop;have huz:dL (ys.drop i):=fun x hx=>hu x (List.mem_of_mem_drop hx);refine aJ func51 rfl ntmps51 rfl ⟨aE,.nil⟩ (fun _=>?_);simp only[aG];by_cases h0:(ys.drop i).length=0
 ·have e:aE2 (ys.drop i)=5:=by unfold aE2;rw[if_pos h0]
  have iA:∀w0 W H t u a b,MS prog w0 W H (.binOp .geq t a b u) [.int .i64 (i:Nat),.int .i64 (ys.length:Nat)] (.bool true) True:=fun _ _ _ _ _ _ _=>cD inferInstance trivial (congrArg Value.bool (decide_eq_true oo));refine aB;refine bK;exact FiR.no e od
 have iA:∀w0 W H t u a b,MS prog w0 W H (.binOp .geq t a b u) [.int .i64 (i:Nat),.int .i64 (ys.length:Nat)] (.bool false) True:=fun _ _ _ _ _ _ _=>cD inferInstance trivial (congrArg Value.bool (decide_eq_false oo));obtain⟨bA,oA,rfl,hA⟩:=hr.at_ (by omega:0<ys.length);have eg:∀k,ys.getD (i+k) 0=(ys.drop i).getD k 0:=fun k=>(bGa ys i k).symm;have eg0:ys.getD i 0=(ys.drop i).getD 0 0:=eg 0;by_cases h1:(ys.drop i).getD 0 0=126
 rotate_left
 ·have e:aE2 (ys.drop i)=3:=by unfold aE2;rw[if_neg h0,if_pos h1]
  have iB:∀w0 W H t u a b,MS prog w0 W H (.binOp .neq t a b u) [.int .u8 (ys.getD i 0),.int .u8 126] (.bool true) True:=fun _ _ _ _ _ _ _=>cD inferInstance trivial (congrArg Value.bool (by rw[eg0];simpa using h1));refine aB;refine bK;exact FiR.no e od
 have iB:∀w0 W H t u a b,MS prog w0 W H (.binOp .neq t a b u) [.int .u8 (ys.getD i 0),.int .u8 126] (.bool false) True:=fun _ _ _ _ _ _ _=>cD inferInstance trivial (congrArg Value.bool (by rw[eg0];simpa using h1));have iP:∀w0 W H t u a b,MS prog w0 W H (.binOp .add t a b u) [.int .i64 ((i:Nat):Int),.int .i64 1] (.int .i64 ((i+1:Nat):Int)) True:=fun _ _ _ _ _ _ _=>cD inferInstance (by show (-9223372036854775808:Int)≤_∧_≤(9223372036854775807:Int);omega) (congrArg (Value.int .i64) oo);by_cases h2:(ys.drop i).length=1
 ·have e:aE2 (ys.drop i)=5:=by unfold aE2;rw[if_neg h0,if_neg (Decidable.not_not.2 h1),if_pos h2]
  have iC:∀w0 W H t u a b,MS prog w0 W H (.binOp .geq t a b u) [.int .i64 ((i+1:Nat):Int),.int .i64 (ys.length:Nat)] (.bool true) True:=fun _ _ _ _ _ _ _=>cD inferInstance trivial (congrArg Value.bool (decide_eq_true oo));refine aB;refine bK;exact FiR.no e od
 have iC:∀w0 W H t u a b,MS prog w0 W H (.binOp .geq t a b u) [.int .i64 ((i+1:Nat):Int),.int .i64 (ys.length:Nat)] (.bool false) True:=fun _ _ _ _ _ _ _=>cD inferInstance trivial (congrArg Value.bool (decide_eq_false oo));have iN:=bE9 (ys.getD (i+1) 0);have iS:=bGq (ys.getD (i+1) 0);have hk:=aKb hu (i+1);rw[eg]at iN iS hk;have eg1:=eg 1;by_cases h3:aD1 ((ys.drop i).getD 1 0)<0
 ·have e:aE2 (ys.drop i)=13:=by unfold aE2;rw[if_neg h0,if_neg (Decidable.not_not.2 h1),if_neg h2,if_pos h3]
  have iD:∀w0 W H t u a b,MS prog w0 W H (.binOp .lss t a b u) [.int .i64 (aD1 ((ys.drop i).getD 1 0)),.int .i64 0] (.bool true) True:=fun _ _ _ _ _ _ _=>cD inferInstance trivial (congrArg Value.bool (decide_eq_true oo));rw[← eg1]at iN iS iD;refine aB;refine bK;exact FiR.no e od
 have hsz0:=aP6 h3;have hnum:=aTf ((ys.drop i).getD 1 0);rw[← hsz0.2.2]at iS;have iD:∀w0 W H t u a b,MS prog w0 W H (.binOp .lss t a b u) [.int .i64 (aD1 ((ys.drop i).getD 1 0)),.int .i64 0] (.bool false) True:=fun _ _ _ _ _ _ _=>cD inferInstance trivial (congrArg Value.bool (decide_eq_false oo));rw[← eg1]at iN iS iD;obtain⟨sz,hszz⟩:∃sz,aFb ((ys.drop i).getD 1 0)=sz:=⟨_,rfl⟩;have hsz:=hsz0;rw[hszz]at hsz;rw[← eg1]at hszz hsz;rw[hszz]at iS;have iQ:∀w0 W H t u a b,MS prog w0 W H (.binOp .add t a b u) [.int .i64 ((i:Nat):Int),.int .i64 ((sz:Nat):Int)] (.int .i64 ((i+sz:Nat):Int)) True:=fun _ _ _ _ _ _ _=>cD inferInstance (by show (-9223372036854775808:Int)≤_∧_≤(9223372036854775807:Int);omega) (congrArg (Value.int .i64) oo);by_cases h4:(ys.drop i).length<sz
 ·have e:aE2 (ys.drop i)=5:=by unfold aE2;rw[if_neg h0,if_neg (Decidable.not_not.2 h1),if_neg h2,if_neg h3,if_pos (by rw[← eg1,hszz];exact h4)]
  have iE:∀w0 W H t u a b,MS prog w0 W H (.binOp .gtr t a b u) [.int .i64 ((i+sz:Nat):Int),.int .i64 (ys.length:Nat)] (.bool true) True:=fun _ _ _ _ _ _ _=>cD inferInstance trivial (congrArg Value.bool (decide_eq_true oo));refine aB;refine bK;exact FiR.no e od
 have iE:∀w0 W H t u a b,MS prog w0 W H (.binOp .gtr t a b u) [.int .i64 ((i+sz:Nat):Int),.int .i64 (ys.length:Nat)] (.bool false) True:=fun _ _ _ _ _ _ _=>cD inferInstance trivial (congrArg Value.bool (decide_eq_false oo));have iF:∀w0 W H t u a b,MS prog w0 W H (.binOp .sub t a b u) [.int .i64 ((i+sz:Nat):Int),.int .i64 4] (.int .i64 ((i+sz-4:Nat):Int)) True:=fun _ _ _ _ _ _ _=>cD inferInstance (by show (-9223372036854775808:Int)≤_∧_≤(9223372036854775807:Int);omega) (congrArg (Value.int .i64) oo);have jQ9:∀w0 W H t u a b,LV prog w0 W H (.binOp .add t a b u) [.int .i64 ((i:Nat):Int),.int .i64 ((sz:Nat):Int)] (.int .i64 ((i+sz:Nat):Int)) True:=fun _ _ _ _ _ _ _=>gH inferInstance (by show (-9223372036854775808:Int)≤_∧_≤(9223372036854775807:Int);omega) (congrArg (Value.int .i64) oo);have jF9:∀w0 W H t u a b,LV prog w0 W H (.binOp .sub t a b u) [.int .i64 ((i+sz:Nat):Int),.int .i64 4] (.int .i64 ((i+sz-4:Nat):Int)) True:=fun _ _ _ _ _ _ _=>gH inferInstance (by show (-9223372036854775808:Int)≤_∧_≤(9223372036854775807:Int);omega) (congrArg (Value.int .i64) oo);have hcl:ys.length≤c:=by obtain⟨_,_,e,q1,-⟩:=hr.h;injection e with _ _ e;omega
 have hfc:aE2 (ys.drop i)=if pM ((ys.drop i).take sz)then 0 else 4:=by unfold aE2;rw[if_neg h0,if_neg (Decidable.not_not.2 h1),if_neg h2,if_neg h3,if_neg (by rw[← eg1,hszz];exact h4),← eg1,hszz]
 have hle2:=sB huz (a:=2) (n:=2) oo;have hle4:=sB huz (a:=4) (n:=4) oo;have htl:((ys.drop i).take sz).length=sz:=by rw[List.length_take];omega
 have hut:dL ((ys.drop i).take sz):=fun x hx=>huz x (List.mem_of_mem_take hx);have ht4:((ys.drop i).take sz).take (sz-4)=(ys.drop i).take (sz-4):=by rw[List.take_take,Nat.min_eq_left oo]
 have hsame:=bFa htl oo;rw[ht4]at hsame;have hu4:dL ((ys.drop i).take (sz-4)):=fun x hx=>huz x (List.mem_of_mem_take hx);have hup:dL (kI ((ys.drop i).take (sz-4))):=aJj hu4;have htl4:((ys.drop i).take (sz-4)).length=i+sz-4-i:=by rw[List.length_take];omega
 refine aAo i (i+sz-4) hr oo fun hr4=>?_;refine aAo i (i+sz) hr oo fun hr5=>?_;rw[show (ys.drop i).take (i+sz-4-i)=(ys.drop i).take (sz-4) by congr 1;omega]at hr4;rw[show (ys.drop i).take (i+sz-i)=(ys.drop i).take sz by congr 1;omega]at hr5;refine dH (e:=5) (size:=1) ?_;refine aB;rename_i g4;have iNq:∀w0 W H t u a b,MS prog w0 W H (.binOp .neq t a b u) [.string (strOfNums (kI ((ys.drop i).take (sz-4)))),.string (strOfNums ((ys.drop i).take sz))] (.bool (!(kI ((ys.drop i).take (sz-4))==(ys.drop i).take sz))) True:=fun _ _ _ _ _ _ _=>cD inferInstance ⟨hup,hut⟩ rfl;refine lO (X:=Unit) (fun _=>True) (fun _=>[(0,.slice (some ⟨bA,oA,none⟩) ys.length c),(1,.int .i64 i),(4,.pointer (some ⟨g4,0,none⟩)),(7,.int .i64 (ys.getD (i+1) 0)),(8,.int .i64 (sz:Nat)),(70,.bool (!(kI ((ys.drop i).take (sz-4))==(ys.drop i).take sz)))])
  (fun _=>[.blk g4 59 [.int .i64 0,.int .u16 0,.int .u32 0,.int .i32 0,.int .i32 0,.int .i32 0]]) ?_ ?_
 ·refine dM [.blk g4 59 [.int .i64 0,.int .u16 0,.int .u32 0,.int .i32 0,.int .i32 0,.int .i32 0]] [true,true,true,true,true,true,false,false,false,true,true,true,true,true,false,false,false] [6,7,8,14,15,16] aA.au rfl od bD ?_;repeat' (first|refine fN rfl rfl rfl ?_|(refine fM rfl rfl rfl ?_ ?_;(next=>first|exact trivial|omega))|refine fC ?_)
  refine fX ?_;intro _;refine cE;all_goals refine lf rfl rfl rfl (S:=[]) (fun w hw ho=>bGk _ (c-i) (i+sz-4-i) _ w htl4 ⟨hr4.h.go hw (aC.nil _)⟩ hu4 oo) ?_
  all_goals rintro v S' ⟨A9,c9,rfl,rfl⟩
  all_goals refine cE
  all_goals exact aR () trivial trivial ⟨rfl,rfl,rfl,rfl,rfl,rfl,trivial⟩ aA.au
 rintro _ -;by_cases hok:pM ((ys.drop i).take sz)
 rotate_left
 ·rw[if_neg hok]at hfc;have e:(!(kI ((ys.drop i).take (sz-4))==(ys.drop i).take sz))=true:=by rw[Bool.not_eq_true',beq_eq_false_iff_ne];exact fun h=>hok (hsame.1 h)
  rw[e];refine aB;refine bK;exact FiR.no hfc od
 rw[if_pos hok]at hfc;have e:(!(kI ((ys.drop i).take (sz-4))==(ys.drop i).take sz))=false:=by rw[hsame.2 hok];simp
 rw[e];clear e;refine aB;refine lf rfl rfl rfl (S:=[]) (fun w hw ho=>bCx _ c _ ys _ i 2 2 (by rfl) w rfl ⟨hr.h.go hw (aC.nil _)⟩ hu od oo oo) ?_;rintro v S' ⟨rfl,rfl⟩;refine aB;refine lf rfl rfl rfl (S:=[]) (fun w hw ho=>bCx _ c _ ys _ i 4 4 (by rfl) w rfl ⟨hr.h.go hw (aC.nil _)⟩ hu od oo oo) ?_;rintro v S' ⟨rfl,rfl⟩;have hno:∀k:Nat,¬(k:Int)<aD1 ((ys.drop i).getD 1 0)→aI2 (ys.drop i) k=0:=fun k h=>if_neg h;have hyes:∀k:Nat,(k:Int)<aD1 ((ys.drop i).getD 1 0)→aI2 (ys.drop i) k=IntKind.i32.wrap (dN (ys.drop i) (8+4*k) 4:Nat):=fun k h=>if_pos h;rw[← eg1]at hno hyes hnum h3;have hq:aD1 (ys.getD (i+1) 0)=0∨aD1 (ys.getD (i+1) 0)=1∨aD1 (ys.getD (i+1) 0)=2∨aD1 (ys.getD (i+1) 0)=3:=oo;rw[eg1]at hszz;rcases hq with q|q|q|q
 ·rw[q]at iN hsz;have a0:=hno 0 oo;have a1:=hno 1 oo;have a2:=hno 2 oo;have hf:aFm (ys.drop i)=⟨ys.getD (i+1) 0,(dN (ys.drop i) 2 2:Nat),(dN (ys.drop i) 4 4:Nat),0,0,0⟩:=by unfold aFm;simp only[a0,a1,a2,Nat.reduceMul,Nat.reduceAdd,eg1]
  clear a0 a1 a2 hyes hno;refine aB;refine aBw 1 ?_;refine aB;refine bK;exact FiR.yes hfc hf hszz
 ·rw[q]at iN hsz;have hl0:=sB huz (a:=8) (n:=4) oo;have a0:=hyes 0 oo;have a1:=hno 1 oo;have a2:=hno 2 oo;have hf:aFm (ys.drop i)=⟨ys.getD (i+1) 0,(dN (ys.drop i) 2 2:Nat),(dN (ys.drop i) 4 4:Nat),IntKind.i32.wrap (dN (ys.drop i) 8 4:Nat),0,0⟩:=by unfold aFm;simp only[a0,a1,a2,Nat.reduceMul,Nat.reduceAdd,eg1]
  clear a0 a1 a2 hyes hno;refine aB;refine aBw 2 ?_;refine aB;refine lf rfl rfl rfl (S:=[]) (fun w hw ho=>bCx _ c _ ys _ i 8 4 oo w rfl ⟨hr.h.go hw (aC.nil _)⟩ hu od oo oo) ?_;rintro v S' ⟨rfl,rfl⟩;refine aB;refine bK;exact FiR.yes hfc hf hszz
 ·rw[q]at iN hsz;have hl0:=sB huz (a:=8) (n:=4) oo;have hl1:=sB huz (a:=12) (n:=4) oo;have a0:=hyes 0 oo;have a1:=hyes 1 oo;have a2:=hno 2 oo;have hf:aFm (ys.drop i)=⟨ys.getD (i+1) 0,(dN (ys.drop i) 2 2:Nat),(dN (ys.drop i) 4 4:Nat),IntKind.i32.wrap (dN (ys.drop i) 8 4:Nat),IntKind.i32.wrap (dN (ys.drop i) 12 4:Nat),0⟩:=by unfold aFm;simp only[a0,a1,a2,Nat.reduceMul,Nat.reduceAdd,eg1]
  clear a0 a1 a2 hyes hno;refine aB;refine aBw 3 ?_;refine aB;refine lf rfl rfl rfl (S:=[]) (fun w hw ho=>bCx _ c _ ys _ i 8 4 oo w rfl ⟨hr.h.go hw (aC.nil _)⟩ hu od oo oo) ?_;rintro v S' ⟨rfl,rfl⟩;refine aB;refine lf rfl rfl rfl (S:=[]) (fun w hw ho=>bCx _ c _ ys _ i 12 4 oo w rfl ⟨hr.h.go hw (aC.nil _)⟩ hu od oo oo) ?_;rintro v S' ⟨rfl,rfl⟩;refine aB;refine bK;exact FiR.yes hfc hf hszz
 ·rw[q]at iN hsz;have hl0:=sB huz (a:=8) (n:=4) oo;have hl1:=sB huz (a:=12) (n:=4) oo;have hl2:=sB huz (a:=16) (n:=4) oo;have a0:=hyes 0 oo;have a1:=hyes 1 oo;have a2:=hyes 2 oo;have hf:aFm (ys.drop i)=⟨ys.getD (i+1) 0,(dN (ys.drop i) 2 2:Nat),(dN (ys.drop i) 4 4:Nat),IntKind.i32.wrap (dN (ys.drop i) 8 4:Nat),IntKind.i32.wrap (dN (ys.drop i) 12 4:Nat),IntKind.i32.wrap (dN (ys.drop i) 16 4:Nat)⟩:=by unfold aFm;simp only[a0,a1,a2,Nat.reduceMul,Nat.reduceAdd,eg1]
  clear a0 a1 a2 hyes hno;refine aB;refine aBw 4 ?_;refine aB;refine lf rfl rfl rfl (S:=[]) (fun w hw ho=>bCx _ c _ ys _ i 8 4 oo w rfl ⟨hr.h.go hw (aC.nil _)⟩ hu od oo oo) ?_;rintro v S' ⟨rfl,rfl⟩;refine aB;refine lf rfl rfl rfl (S:=[]) (fun w hw ho=>bCx _ c _ ys _ i 12 4 oo w rfl ⟨hr.h.go hw (aC.nil _)⟩ hu od oo oo) ?_;rintro v S' ⟨rfl,rfl⟩;refine aB;refine lf rfl rfl rfl (S:=[]) (fun w hw ho=>bCx _ c _ ys _ i 16 4 oo w rfl ⟨hr.h.go hw (aC.nil _)⟩ hu od oo oo) ?_;rintro v S' ⟨rfl,rfl⟩;refine aB;refine bK;exact FiR.yes hfc hf hszz
def NwP(ys:List Int)(cf:dF)(x y:Int)(s0:aK):Prop:=(s0=qA cf x y∧rJ ys 0∧kT x y=true)∨(s0 = { qA cf x y with mode:=4 }∧((∃code,code≠0∧rJ ys code)∨(rJ ys 0∧kT x y=false)))
theorem NwP.one{ys:List Int}{cf:dF}{x y:Int}{s t:aK}(h:NwP ys cf x y s)(g:NwP ys cf x y t):s=t:=by
 rcases h with⟨h1,h2,h3⟩ | ⟨h1,h2⟩<;>rcases g with⟨g1,g2,g3⟩ | ⟨g1,g2⟩
 ·rw[h1,g1]
 ·rcases g2 with⟨c,hc,hg⟩ | ⟨-,hw⟩
  ·exact absurd (hg.one h2) hc
  ·rw[h3]at hw;cases hw
 ·rcases h2 with⟨c,hc,hg⟩ | ⟨-,hw⟩
  ·exact absurd (hg.one g2) hc
  ·rw[g3]at hw;cases hw
 ·rw[h1,g1]
def NwA(ys:List Int)(cf:dF)(x y:Int)(s0:aK)(a:bQ)(T:List HE):Prop:=∃ptr,a=⟨ptr,none,0,none,0,none,0,none,0,none,0⟩ ∧
  ((s0 = qA cf x y ∧ rJ ys 0 ∧ kT x y = true ∧ ∃ K : eH, K.ys = ys ∧ K.room = 8 ∧ ptr = some ⟨K.g, 0, none⟩ ∧ T = K.H (xZ 8)) ∨
   (s0 = { qA cf x y with mode := 4 } ∧ ptr = none ∧ T = [] ∧ ((∃ code, code ≠ 0 ∧ rJ ys code) ∨ (rJ ys 0 ∧ kT x y = false))))
theorem NwA.p{ys:List Int}{cf:dF}{x y:Int}{s0:aK}{a:bQ}{T:List HE}(h:NwA ys cf x y s0 a T):NwP ys cf x y s0:=by
 obtain⟨ptr,-,⟨h1,h2,h3,-⟩ | ⟨h1,-,-,h2⟩⟩:=h
 ·exact .inl ⟨h1,h2,h3⟩
 ·exact .inr ⟨h1,h2⟩
theorem NwA.inv{ys f:List Int}{cf:dF}{x y:Int}{s0:aK}{a:bQ}{T:List HE}(h:NwA ys cf x y s0 a T)(hc:oR cf=0)(hxy:bG .i64 x∧bG .i64 y)(hF:jS ys f 8):NvI ys f 0 0 s0 a [] (none,0,[]) (none,0,[]) T:=by obtain⟨ptr,ha,h⟩:=h;exact aWs hc hxy hF ha h
theorem NwA.bad{ys f:List Int}{cf:dF}{x y:Int}{s0:aK}{a:bQ}{T:List HE}(h:NwA ys cf x y s0 a T)(hc:oR cf=0)(hxy:bG .i64 x∧bG .i64 y)(hF:¬rJ ys 0):NvI ys f 0 0 s0 a [] (none,0,[]) (none,0,[]) T∧s0.mode=4:=by
 obtain⟨ptr,rfl,⟨-,h2,-⟩ | ⟨rfl,rfl,rfl,-⟩⟩:=h
 ·exact absurd h2 hF
 ·exact⟨⟨aWp hc hxy,fun h=>absurd rfl h,rfl,.inr (.inr rfl),.inr (.inr rfl),.inl ⟨rfl,rfl,rfl⟩⟩,rfl⟩
theorem bEs{ys:List Int}(h:ys.length≤30):¬rJ ys 0:=by
 rintro(⟨h1,-⟩ | ⟨-,i,-,h2,-⟩ | ⟨h1,-,h3⟩)
 ·exact h1 rfl
 ·exact h2.ne rfl
 ·have hO:=(aM6 ys).1 h1;obtain⟨r1,r2,r3,r4,-⟩:=hO.rng;have hc1:1≤bC (wY ys):=by unfold bC;omega
  have hc2:1≤bC (hY ys):=by unfold bC;omega
  have hn:1≤nT (wY ys) (hY ys):=Nat.mul_pos hc1 hc2;obtain⟨zs,-,-,hz⟩:=h3 0 hn;have hin:=hO.in_ (i:=0) hn;have hl:(nS ys 0).length≤kR ys 0:=by unfold nS pD;rw[List.length_take];omega
  rw[hz,yW]at hl;have e:fA ys 0=fV (wY ys) (hY ys):=rfl;unfold fV at e;omega
theorem DnR.of{ys:List Int}{cf:dF}{x y:Int}{v:Value}{S':List HE}(h:DnR ys cf x y v S')(hc:oR cf=0):∃(d g:Nat) (s0:aK) (a:bQ) (T:List HE),v=.tuple #[.pointer (some ⟨d,0,none⟩),.int .i64 0]∧S'=drH d g none 0 0 0 [] 0::tB g s0 a [] (none,0,[]) (none,0,[]) T∧NwA ys cf x y s0 a T:=by
 rcases h with⟨h,-⟩ | ⟨-,d,g,s0,a,T,h1,h2,h3⟩
 ·exact absurd hc h
 ·exact⟨d,g,s0,a,T,h1,h2,h3⟩
def FlR(ys' f ys:List Int)(cf:dF)(x y:Int)(bs:List Int)(v:Value)(S':List HE):Prop :=
 ∃Ao co s0,v=.tuple #[.slice Ao ((aE4 (wY ys') (hY ys') f s0 (aDg bs).1).2.flatMap aDn).length co,.int .i64 0]∧S'=[aF7 Ao co ((aE4 (wY ys') (hY ys') f s0 (aDg bs).1).2.flatMap aDn)]∧NwP ys cf x y s0∧cS s0 0∧(s0.mode≠4→kT s0.x s0.y=true)
theorem bEl(ys' f:List Int)(A:Option Addr)(c:Nat)(ys:List Int)(cf:dF)(x y:Int)(B:Option Addr)(e:Nat)(bs:List Int)(w:World)(hr:bP w (bB []) A ys.length c 1 (aD .u8 ys))(hrb:bP w (bB []) B bs.length e 1 (aD .u8 bs))(hu:dL ys)(hub:dL bs)(hm:ys.length<100000000)(hmb:bs.length≤100000)(hc:oR cf=0)(hinv:∀s0 a T,NwA ys cf x y s0 a T→NvI ys' f 0 0 s0 a [] (none,0,[]) (none,0,[]) T):
  aF prog 17 [.slice A ys.length c,.agg (aAe cf).toArray,.agg #[.int .i64 x,.int .i64 y],.slice B bs.length e] [] w (FlR ys' f ys cf x y bs):=by
 refine aJ func17 rfl ntmps17 rfl ⟨aE,.nil⟩ (fun n=>?_);simp only[aG];refine aB;refine lf rfl rfl rfl (S:=[]) (fun w hw ho=>bDh A c ys cf x y w ⟨hr.h.go hw (aC.nil _)⟩ hu hm) ?_;rintro v S' hv;obtain⟨d,g,s0,a,T,rfl,rfl,hA⟩:=hv.of hc;have hI:=hinv s0 a T hA;have iE0:∀w0 W H t u a b,MS prog w0 W H (.binOp .neq t a b u) [.int .i64 0,.int .i64 0] (.bool false) True:=fun _ _ _ _ _ _ _=>cD inferInstance trivial rfl;refine aCr ?_;simp only[List.cons_append,List.nil_append];refine aB;refine dH (e:=5) (size:=1) ?_;have hP:∀(w:World) (ho:aZ (drH d g none 0 0 0 [] 0::.row (.slice none 0 0) 5 1 0 []::tB g s0 a [] (none,0,[]) (none,0,[]) T) w) (hr:bP w (bB (drH d g none 0 0 0 [] 0::.row (.slice none 0 0) 5 1 0 []::tB g s0 a [] (none,0,[]) (none,0,[]) T)) B bs.length e 1 (aD .u8 bs)),
   aF prog 16 [.pointer (some ⟨d,0,none⟩),.slice B bs.length e] (drH d g none 0 0 0 [] 0::.row (.slice none 0 0) 5 1 0 []::tB g s0 a [] (none,0,[]) (none,0,[]) T) w (fun v S'=>DvR ys' f 0 0 d g 0 [] 0 (aDg bs) (aE4 (wY ys') (hY ys') f s0 (aDg bs).1) v S') :=
  fun w ho hr=>bDi ys' f d g 0 s0 a [] (none,0,[]) (none,0,[]) T 0 none 0 [] 0 [] 0 B e bs w ho hr hI (fun x hx=>absurd hx aE) hub (by show 0+bs.length≤100000;omega) od od od od od
 refine jP (H':=drH d g none 0 0 0 [] 0::.row (.slice none 0 0) 5 1 0 []::tB g s0 a [] (none,0,[]) (none,0,[]) T) (by exact aA.au) ?_;refine lb (f:=16) (first:=#[.pointer (some ⟨d,0,none⟩)]) (captured:=#[]) (S:=drH d g none 0 0 0 [] 0::.row (.slice none 0 0) 5 1 0 []::tB g s0 a [] (none,0,[]) (none,0,[]) T) rfl rfl rfl rfl (fun w hw ho=>hP w ho ⟨hrb.h.go hw (aC.whole1 _)⟩) (hs:=⟨aC.whole1 _⟩) ?_;rintro v S' ⟨Ao,co,A2,c2,a2,ds2,y1,y2,T2,rfl,rfl,hI2⟩;simp only[List.append_nil];refine aB;exact cY (S':=[aF7 Ao co ((aE4 (wY ys') (hY ys') f s0 (aDg bs).1).2.flatMap aDn)]) rfl rfl rfl aA.au ⟨Ao,co,s0,rfl,rfl,hA.p,hI.ok,hI.near⟩
instance light28_cv(A:Option Addr)(n c:Nat)(B:Option Addr)(m d:Nat):CV prog 10 [.slice A n c,.slice B m d] (.bool (decide (n≤1500∧m≤1500))) True:=⟨fun _ w=>by
 refine aJ func10 rfl ntmps10 rfl ⟨aE,.nil⟩ (fun _=>?_);simp only[aG];by_cases h1:n≤1500
 ·have iA:∀w0 W H t u a b,MS prog w0 W H (.binOp .leq t a b u) [.int .i64 ((n:Nat):Int),.int .i64 1500] (.bool true) True:=fun _ _ _ _ _ _ _=>cD inferInstance trivial (congrArg Value.bool (decide_eq_true oo));by_cases h2:m≤1500
  ·have iB:∀w0 W H t u a b,MS prog w0 W H (.binOp .leq t a b u) [.int .i64 ((m:Nat):Int),.int .i64 1500] (.bool true) True:=fun _ _ _ _ _ _ _=>cD inferInstance trivial (congrArg Value.bool (decide_eq_true oo));rw[decide_eq_true ⟨h1,h2⟩];refine aB;exact aM rfl rfl (.nil _) ⟨rfl,rfl⟩
  ·have iB:∀w0 W H t u a b,MS prog w0 W H (.binOp .leq t a b u) [.int .i64 ((m:Nat):Int),.int .i64 1500] (.bool false) True:=fun _ _ _ _ _ _ _=>cD inferInstance trivial (congrArg Value.bool (decide_eq_false oo));rw[decide_eq_false (fun q=>h2 q.2)];refine aB;exact aM rfl rfl (.nil _) ⟨rfl,rfl⟩
 ·have iA:∀w0 W H t u a b,MS prog w0 W H (.binOp .leq t a b u) [.int .i64 ((n:Nat):Int),.int .i64 1500] (.bool false) True:=fun _ _ _ _ _ _ _=>cD inferInstance trivial (congrArg Value.bool (decide_eq_false oo));rw[decide_eq_false (fun q=>h1 q.1)];refine aB;exact aM rfl rfl (.nil _) ⟨rfl,rfl⟩⟩
def c28:dF:=⟨5000,1048576,0,1048576,255,640,4,3,4,1,⟨3000,400,5⟩,2,256,64,4,0,1,1,1,500,1⟩
def aF5:lM:=⟨5,1,0,1,0,0⟩
def aPf:lM:=⟨7,1,0,1,0,0⟩
def bD6:lM:=⟨7,1,0,4,0,0⟩
theorem bDg:oR c28=0:=by decide
theorem bDc:aF5.ok∧aGl aF5=0:=⟨⟨od,od,od,od,od,od⟩,od⟩
theorem bDr:aPf.ok∧aGl aPf=0:=⟨⟨od,od,od,od,od,od⟩,od⟩
theorem bG7:(aDn aF5).length=16:=by rw[bD0 bDc.2];decide
theorem bH1:(aDn aPf).length=20:=by rw[bD0 bDr.2];decide
theorem bEy:(aDn bD6).length=20:=by rw[bD0 od];decide
theorem bGs:(aE4 12 12 (lQ [5,9,4] 144) (qA c28 0 0) [aF5]).2=[aPf]:=by rfl
theorem bEz(W H:Nat)(f:List Int):(aE4 W H f { qA c28 0 0 with mode:=4 } [aF5]).2=[bD6]:=by rfl
theorem bFt:aDg ([1,2]++aDn aF5)=([aF5],2,[]):=by
 have h1:aDg (aDn aF5)=([aF5],0,[]):=by have:=bDy [aF5] (fun f hf=>by rw[List.mem_singleton]at hf;subst hf;exact bDc);simpa using this
 have a1:∀b:List Int,aE2 (1::b)=3:=fun b=>by unfold aE2;rw[if_neg aE,if_pos (by show (1:Int)≠126;decide)]
 have a2:∀b:List Int,aE2 (2::b)=3:=fun b=>by unfold aE2;rw[if_neg aE,if_pos (by show (2:Int)≠126;decide)]
 generalize aDn aF5=b at *;rw[List.cons_append,List.cons_append,List.nil_append,bD2 (by rw[a1];decide) (by rw[a1];decide),List.drop_succ_cons,List.drop_zero,bD2 (by rw[a2];decide) (by rw[a2];decide),List.drop_succ_cons,List.drop_zero,h1]
theorem bFv:aDg (aDn aF5)=([aF5],0,[]):=by have:=bDy [aF5] (fun f hf=>by rw[List.mem_singleton]at hf;subst hf;exact bDc);simpa using this
theorem bFu:aDg ((aDn aF5).take 5)=([],0,(aDn aF5).take 5):=bDj bD
theorem bFw:aE2 (aDn aPf)=0∧aFm (aDn aPf)=aPf∧aFb ((aDn aPf).getD 1 0)=20:=by have h1:=bE0 bDr.2 [];have h2:=bEk bDr.1 bDr.2 [];rw[List.append_nil]at h1 h2;exact⟨h1.1,h2,by rw[h1.2];decide⟩
end Go.Proofs.YtbhchphfmhmabaaGreat
namespace Go.Proofs.YtbhchphfmhmabaaGreat
open Go.RowKit _root_.Go.Proofs.Tryz
theorem bEg:oR aJ8=2:=by decide
instance (priority:=60) frmHi{P:Program}{w0:World}{W:Nat→Prop}{H:List HE}(t e sz bs m c h:Nat)(z:Value)(k:IntKind)(a:Int)(x hi:Operand)(A:Option Addr)[hu:aN P t (.slice e)][hI:bF P e sz bs z][ha:vP a h]:MS P w0 W H (.slice t x none (some hi) none) [.slice A m c,.int k a] (.slice (nV A 0 c sz) (h-0) (c-0)) (h≤c):=by
 have e:=ha.h;subst e
 infer_instance
theorem NwP.good{ys:List Int}{cf:dF}{x y:Int}{s0:aK}(h:NwP ys cf x y s0)(hg:rJ ys 0)(hw:kT x y=true):s0=qA cf x y:=by
 rcases h with⟨h,-⟩ | ⟨-,⟨code,hne,h⟩ | ⟨-,h⟩⟩
 ·exact h
 ·exact absurd (h.one hg) hne
 ·rw[hw]at h;cases h
theorem bFf (ys' f : List Int) (d g : Nat) (s0 : aK) (a : bQ) (T : List HE) (B : Option Addr) (e : Nat) (bs : List Int) (hI : NvI ys' f 0 0 s0 a [] (none, 0, []) (none, 0, []) T) (hub : dL bs) (hmb : bs.length ≤ 100000) (w : World) (ho : aZ (drH d g none 0 0 0 [] 0 :: .row (.slice none 0 0) 5 1 0 [] :: tB g s0 a [] (none, 0, []) (none, 0, []) T) w) (hr : bP w (bB (drH d g none 0 0 0 [] 0 :: .row (.slice none 0 0) 5 1 0 [] :: tB g s0 a [] (none, 0, []) (none, 0, []) T)) B bs.length e 1 (aD .u8 bs)) :
      aF prog 16 [.pointer (some ⟨d, 0, none⟩), .slice B bs.length e] (drH d g none 0 0 0 [] 0 :: .row (.slice none 0 0) 5 1 0 [] :: tB g s0 a [] (none, 0, []) (none, 0, []) T) w (fun v S' => DvR ys' f 0 0 d g 0 [] 0 (aDg bs) (aE4 (wY ys') (hY ys') f s0 (aDg bs).1) v S') :=
  bDi ys' f d g 0 s0 a [] (none,0,[]) (none,0,[]) T 0 none 0 [] 0 [] 0 B e bs w ho hr hI (fun x hx=>absurd hx aE) hub (by show 0+bs.length≤100000;omega) od od od od od
attribute [local irreducible] OJ J bM Code.wpIn wpListIn Oper.wpIn bodyPost CallsIn aF
instance conf28_cv:CV prog 49 [.int .u8 1,.int .u8 2,.int .u8 3,.int .u8 0] (.agg (aAe c28).toArray) True:=⟨fun _ w=>by have iL:yQ [(0,4),(4,6),(10,3),(13,1),(14,1),(15,1),(16,1),(17,1),(18,1),(19,1),(20,1),(21,1),(22,1)] [.int .u32 0,.int .i64 0,.int .i64 0,.int .i64 0,.int .i64 0,.int .i64 0,.int .i64 0,.int .i64 0,.int .i64 0,.int .i64 0,.int .i64 0,.int .i64 0,.int .i64 0,.int .i64 0,.int .i64 0,.int .i64 0,.int .i64 0,.int .i64 0,.int .i64 0,.int .i64 0,.int .i64 0,.int .i64 0,.int .i64 0] [(0,.agg #[.int .u32 5000,.int .i64 1048576,.int .i64 0,.int .i64 1048576]),(1,.agg #[.int .i64 255,.int .i64 640,.int .i64 4,.int .i64 3,.int .i64 (1+3%30),.int .i64 (1+0%4)]),(2,.agg #[.int .i64 3000,.int .i64 400,.int .i64 5]),(3,.int .i64 2),(4,.int .i64 256),(5,.int .i64 64),(6,.int .i64 (2+2%5)),(7,.int .i64 0),(8,.int .i64 1),(9,.int .i64 1),(10,.int .i64 1),(11,.int .i64 500),(12,.int .i64 (1%86))] (aAe c28):=⟨by rfl⟩;have iO:jD [.int .u32 0,.int .i64 0,.int .i64 0,.int .i64 0,.int .i64 0,.int .i64 0,.int .i64 0,.int .i64 0,.int .i64 0,.int .i64 0,.int .i64 0,.int .i64 0,.int .i64 0,.int .i64 0,.int .i64 0,.int .i64 0,.int .i64 0,.int .i64 0,.int .i64 0,.int .i64 0,.int .i64 0,.int .i64 0,.int .i64 0] 0 (aAe c28) (aAe c28):=⟨by exact⟨rfl,od⟩⟩;refine aJ func49 rfl ntmps49 rfl ⟨aE,.nil⟩ (fun _=>?_);simp only[aG];refine aB;refine bK;exact⟨rfl,rfl⟩⟩
theorem bH5(w:World):aF prog 12 [] [] w (fun v S'=>v=.bool true∧S'=[]):=by
 have hcb:2≤12∧12≤256∧2≤12∧12≤256∧1≤31∧31≤1000:=oo;have hlz:(lQ [5,9,4] (12*12)).length=12*12:=aK0 [5,9,4] (12*12);have hi16:fD (lQ [5,9,4] (12*12)):=aTa (z:=[5,9,4]) (by intro x hx;simp at hx;rcases hx with rfl|rfl|rfl<;>decide) (12*12);refine aJ func12 rfl ntmps12 rfl ⟨aE,.nil⟩ (fun n=>?_);simp only[aG];refine aB;refine lf rfl rfl rfl (S:=[]) (fun w hw ho=>aVz 10 10 od od 12 12 od od _ 3 [5,9,4] 30 od 0 0 w ⟨Ro.row hw (aC.nil _) (by refine cF)⟩ od) ?_;rintro v S' ⟨Af,cfl,rfl,rfl⟩;rw[show (1+30%1000:Int)=((31:Nat):Int) by decide];have hrun:(aE4 12 12 (lQ [5,9,4] (12*12)) (qA c28 0 0) [aF5]).2=[aPf]:=bGs;generalize lQ [5,9,4] (12*12)=f at *;refine aB;rename_i b1 b2;refine lO (X:=Nat×Nat×aK×bQ×List HE) (fun q=>q.2.2.1=qA c28 0 0∧NvI (fK 12 12 31 0 0 f) f 0 0 q.2.2.1 q.2.2.2.1 [] (none,0,[]) (none,0,[]) q.2.2.2.2) (fun q=>[(2,.pointer (some ⟨b2,0,none⟩)),(3,.pointer (some ⟨q.1,0,none⟩)),(4,.int .i64 0)])
  (fun q=>.blk b2 31 (aAe c28)::drH q.1 q.2.1 none 0 0 0 [] 0::tB q.2.1 q.2.2.1 q.2.2.2.1 [] (none,0,[]) (none,0,[]) q.2.2.2.2) ?_ ?_
 ·refine fJ [.blk b2 31 (aAe c28),.blk b1 43 [.int .i64 ((12:Nat):Int),.int .i64 ((12:Nat):Int),.slice Af f.length cfl,.int .i64 ((31:Nat):Int),.int .i32 0,.int .i32 0]] (0::1::2::3::4::5::6::7::8::9::[]) aA.au ?_;intro _;refine cE;all_goals refine lf rfl rfl rfl (S:=[]) (fun w hw ho=>aQt 12 12 31 Af cfl f 0 0 w ⟨Ro.row hw (aC.nil _) (by refine cF)⟩ hcb hlz hi16 od od) ?_
  all_goals rintro v S' ⟨Ab,cb,rfl,rfl⟩
  all_goals have hF:=aRh (ox:=0) (oy:=0) hcb hlz hi16 (by omega:1≤8∧8≤32)
  all_goals have hget:=aRy (ox:=0) (oy:=0) hcb hlz hi16
  all_goals have hu:=hF.u8
  all_goals have hln:=hF.len
  all_goals generalize fK 12 12 31 0 0 f=bb at *
  all_goals refine cE
  all_goals refine lf rfl rfl rfl (S:=[]) (fun w hw ho=>bDh Ab cb bb c28 0 0 w ⟨Ro.row hw (aC.nil _) (by refine cF)⟩ hu hln) ?_
  all_goals rintro v S' hv
  all_goals obtain⟨d,g,s0,a0,T0,rfl,rfl,hA⟩:=hv.of bDg
  all_goals have hI:=hA.inv bDg (by exact⟨od,od⟩) hF
  all_goals have hs0:=hA.p.good hget od
  all_goals refine aCr ?_
  all_goals simp only[List.cons_append,List.nil_append]
  all_goals refine cE
  all_goals exact aR (d,g,s0,a0,T0) ⟨hs0,hI⟩ trivial ⟨rfl,rfl,rfl,trivial⟩ aA.au
 rintro⟨d,g,s0,a0,T0⟩ ⟨hs0,hI⟩;dsimp only at hs0 hI ⊢;obtain⟨-,hw2,hh2,-,-,-⟩:=aC0 (ox:=0) (oy:=0) (z:=f) (W:=12) (H:=12) (cell:=31) oo;have hP:=fun B e bs hub hmb w ho hr=>bFf (fK 12 12 31 0 0 f) f d g s0 a0 T0 B e bs hI hub hmb w ho hr;have hP2:=fun k s a ds x1 x2 T b A c wt lost l told B e bs w hown hr hI hu hub hm hlo hk hb hl htd=>bDi (fK 12 12 31 0 0 f) f d g k s a ds x1 x2 T b A c wt lost l told B e bs w hown hr hI hu hub hm hlo hk hb hl htd;rw[hw2,hh2]at hP hP2;generalize fK 12 12 31 0 0 f=bb at *;rw[← hs0]at hrun;refine aB;refine lf rfl rfl rfl (S:=[]) (fun w hw ho=>bDh none 0 [] aJ8 0 0 w ⟨Ro.nil _ _ _⟩ (fun _ h=>absurd h aE) od) ?_;rintro v S' (⟨-,rfl,rfl⟩ | ⟨h,-⟩)
 rotate_left
 ·exact absurd h (by rw[bEg];decide)
 rw[bEg];refine aB;refine lf rfl rfl rfl (S:=[drH d g none 0 0 0 [] 0]) (fun w hw ho=>bFe d g none 0 0 0 [] 0 w ho) ?_;rintro v S' ⟨rfl,rfl⟩;refine aB;refine lf rfl rfl rfl (S:=[]) (fun w hw ho=>bGn aF5 bDc.1 w) ?_;rintro v S' ⟨Ap,cp,rfl,rfl⟩;rw[bDc.2];have hpl:=bG7;have hpu:=bE1 aF5;have hf1:=bFt;have hf2:=bFu;have hf3:=bFv;generalize aDn aF5=pb at *;have iAp:yN [.int .u8 1,.int .u8 2] (aD .u8 pb) (aD .u8 ([1,2]++pb)):=⟨rfl⟩;have hpp:([1,2]++pb).length=18:=by rw[List.length_append,hpl];rfl
 have hppu:dL ([1,2]++pb):=dL.app (by intro x hx;simp at hx;rcases hx with rfl|rfl<;>decide) hpu;refine aB;rename_i A8 c8;generalize [1,2]++pb=qb at *;refine dH (e:=5) (size:=1) ?_;refine jP (H':=aF7 A8 c8 qb::aF7 Ap cp pb::.blk b2 31 (aAe c28)::drH d g none 0 0 0 [] 0::.row (.slice none 0 0) 5 1 0 []::tB g s0 a0 [] (none,0,[]) (none,0,[]) T0) (by exact aA.au) ?_;refine fO (S:=drH d g none 0 0 0 [] 0::.row (.slice none 0 0) 5 1 0 []::tB g s0 a0 [] (none,0,[]) (none,0,[]) T0) rfl rfl (aC.preT _ [_,_,_]) rfl (fun w hw ho=>hP A8 c8 qb hppu oo w ho ⟨Ro.row hw (aC.preT _ [_,_,_]) (by refine cF)⟩) ?_;rintro v S' ⟨Ao,co,A2,c2,a2,ds2,y1,y2,T2,rfl,rfl,hI2⟩;rw[hf1]at hI2 ⊢;dsimp only at hI2 ⊢;generalize aE4 12 12 f s0 [aF5]=r1 at *;obtain⟨s1,o1⟩:=r1;dsimp only at hrun hI2 ⊢;subst hrun;have hI3:NvI bb f 1 6000000 s1 a2 ds2 y1 y2 T2:=hI2;clear hI2;have hob:=bFw;have hol:=bH1;rw[show ([aPf]:List lM).flatMap aDn=aDn aPf by simp];have htu:=bE1 aPf;generalize aDn aPf=ob at *;refine aCr ?_;refine jP (H':=aF7 Ao co ob::aF7 Ap cp pb::.blk b2 31 (aAe c28)::drH d g A2 0 c2 2 [aF5] 1::.row (.slice A2 0 c2) 5 1 0 []::tB g s1 a2 ds2 y1 y2 T2) (by show aA _ (aF7 A8 c8 qb::aF7 Ap cp pb::.blk b2 31 (aAe c28)::aF7 Ao co ob::drH d g A2 0 c2 2 [aF5] 1::.row (.slice A2 0 c2) 5 1 0 []::tB g s1 a2 ds2 y1 y2 T2);exact aA.au) ?_;have h2:∀(B:Option Addr) (e m:Nat) (bs:List Int) (_:bs.length=m) (_:dL bs) (_:m≤100000) (w:World) (ho:aZ (drH d g A2 0 c2 2 [aF5] 1::.row (.slice A2 0 c2) 5 1 0 []::tB g s1 a2 ds2 y1 y2 T2) w) (hr:bP w (bB (drH d g A2 0 c2 2 [aF5] 1::.row (.slice A2 0 c2) 5 1 0 []::tB g s1 a2 ds2 y1 y2 T2)) B m e 1 (aD .u8 bs)),
   aF prog 16 [.pointer (some ⟨d,0,none⟩),.slice B m e] (drH d g A2 0 c2 2 [aF5] 1::.row (.slice A2 0 c2) 5 1 0 []::tB g s1 a2 ds2 y1 y2 T2) w (fun v S'=>DvR bb f 1 6000000 d g 2 [aF5] 1 (aDg bs) (aE4 12 12 f s1 (aDg bs).1) v S'):=by
  intro B e m bs hl hu hm w ho hr;subst hl;exact hP2 1 s1 a2 ds2 y1 y2 T2 6000000 A2 c2 [] 2 [aF5] 1 B e bs w ho hr hI3 (fun x hx=>absurd hx aE) hu (by show 0+bs.length≤100000;omega) od od od od od
 refine bEo (A:=Ap) (m:=pb.length) (c:=cp) (e:=5) (s:=1) (xs:=aD .u8 pb) (by refine cF) fun hcap=>?_;have hp5:(pb.take 5).length=5:=by rw[List.length_take];omega
 have hu5:dL (pb.take 5):=fun x hx=>hpu x (List.mem_of_mem_take hx);refine aB;refine fO (S:=drH d g A2 0 c2 2 [aF5] 1::.row (.slice A2 0 c2) 5 1 0 []::tB g s1 a2 ds2 y1 y2 T2) rfl rfl (aC.preT _ [_,_,_]) rfl (fun w hw ho=>h2 _ _ (5-0) ((pb.drop 0).take (5-0)) hp5 hu5 od w ho (bP.sub (l:=0) (h:=5) (⟨Ro.row hw (aC.preT _ [_,_,_]) (by refine cF)⟩:bP w (bB (drH d g A2 0 c2 2 [aF5] 1::.row (.slice A2 0 c2) 5 1 0 []::tB g s1 a2 ds2 y1 y2 T2)) Ap pb.length cp 1 (aD .u8 pb)) od oo)) ?_;rintro v S' ⟨Ao2,co2,A3,c3,a3,ds3,z1,z2,T3,rfl,rfl,hI4⟩;have hf4:aDg ((pb.drop 0).take (5-0))=([],0,pb.take 5):=hf2;rw[hf4];dsimp only[aE4,List.flatMap_nil];rw[hp5];refine aCr ?_;refine jP (H':=aF7 Ao co ob::aF7 Ap cp pb::.blk b2 31 (aAe c28)::drH d g A3 5 c3 2 [aF5] 1::tB g s1 a3 ds3 z1 z2 T3) (by show aA _ (aF7 Ao co ob::aF7 Ap cp pb::.blk b2 31 (aAe c28)::aF7 Ao2 co2 []::drH d g A3 5 c3 2 [aF5] 1::aF7 A3 c3 (pb.take 5)::tB g s1 a3 ds3 z1 z2 T3);exact aA.au) ?_
 generalize tB g s1 a3 ds3 z1 z2 T3=TT at *;refine aB;refine lf rfl rfl rfl (S:=[drH d g A3 5 c3 2 [aF5] 1]) (Rl:=fun v S'=>v=.tuple #[.int .i64 1,.int .i64 1]∧S'=[drH d g A3 5 c3 2 [aF5] 1]) (fun w hw ho=>bFb d g A3 5 c3 2 [aF5] 1 w ho) ?_;rintro v S' ⟨rfl,rfl⟩;simp only[List.cons_append,List.nil_append];refine aB;have hbad:∀s0 a T,NwA [] c28 0 0 s0 a T→NvI [] [] 0 0 s0 a [] (none,0,[]) (none,0,[]) T:=fun s0 a T h=>(h.bad bDg (by exact⟨od,od⟩) (bEs od)).1;refine lf rfl rfl rfl (S:=[]) (fun w hw ho=>bEl [] [] none 0 [] c28 0 0 Ap cp pb w ⟨Ro.nil _ _ _⟩ ⟨Ro.row hw (aC.nil _) (by refine cF)⟩ (fun _ h=>absurd h aE) hpu od oo bDg hbad) ?_;rintro v S' ⟨Af2,cf2,s9,rfl,rfl,hp9,-,-⟩;have hs9:s9 = { qA c28 0 0 with mode:=4 }:=by
  rcases hp9 with⟨-,h,-⟩ | ⟨h,-⟩
  ·exact absurd h (bEs od)
  ·exact h
 rw[hf3];dsimp only;rw[hs9,bEz,show ([bD6]:List lM).flatMap aDn=aDn bD6 by simp];have hbl:=bEy;generalize aDn bD6=b9 at *;have iBd:CV prog 19 [.int .i64 24] (.int .i64 96) True:=⟨fun _ w=>(bound_cv 24).h od w⟩;have iLn:∀w0 W H x,MS prog w0 W H (.call ⟨.builtin .len,#[x],#[34]⟩) [.slice Af2 b9.length cf2] (.int .i64 20) True:=fun _ _ _ _=>cD inferInstance trivial (congrArg (Value.int .i64) oo);refine aB;refine lf rfl rfl rfl (S:=[]) (fun w hw ho=>bGm Ao co ob.length ob 0 w rfl (Nat.zero_le _) ⟨Ro.row hw (aC.nil _) (by refine cF)⟩ htu oo) ?_;rintro v S' ⟨rfl,rfl⟩;rw[List.drop_zero,(bDn hob.1).1,(bDn hob.1).2,hob.1,hob.2.1,hob.2.2];refine aB;refine lf rfl rfl rfl (S:=[drH d g A3 5 c3 2 [aF5] 1]) (Rl:=fun v S'=>v=.int .i64 5∧S'=[drH d g A3 5 c3 2 [aF5] 1]) (fun w hw ho=>bFs d g A3 5 c3 2 [aF5] 1 w ho) ?_;rintro v S' ⟨rfl,rfl⟩;simp only[List.cons_append,List.nil_append];refine aB;refine lf rfl rfl rfl (S:=[drH d g A3 5 c3 2 [aF5] 1]) (Rl:=fun v S'=>v=.int .i64 2∧S'=[drH d g A3 5 c3 2 [aF5] 1]) (fun w hw ho=>bFd d g A3 5 c3 2 [aF5] 1 w ho) ?_;rintro v S' ⟨rfl,rfl⟩;simp only[List.cons_append,List.nil_append];refine aB;refine lf rfl rfl rfl (S:=[drH d g A3 5 c3 2 [aF5] 1]) (Rl:=fun v S'=>v=.int .i64 1∧S'=[drH d g A3 5 c3 2 [aF5] 1]) (fun w hw ho=>bEh d g A3 5 c3 2 [aF5] 1 5 w ho) ?_;rintro v S' ⟨rfl,rfl⟩;simp only[List.cons_append,List.nil_append];refine aB;refine lf rfl rfl rfl (S:=[drH d g A3 5 c3 2 [aF5] 1]) (Rl:=fun v S'=>v=.int .i64 0∧S'=[drH d g A3 5 c3 2 [aF5] 1]) (fun w hw ho=>bEh d g A3 5 c3 2 [aF5] 1 9 w ho) ?_;rintro v S' ⟨rfl,rfl⟩;simp only[List.cons_append,List.nil_append];refine aB;exact aM rfl rfl (.nil _) ⟨rfl,rfl⟩
end Go.Proofs.YtbhchphfmhmabaaGreat
namespace Go.Proofs.YtbhchphfmhmabaaGreat
open Go.RowKit _root_.Go.Proofs.Tryz
theorem bF2:aPn prog 27 [.i64,.i64,.i64,.i64,.i64,.i64]:=bD7 [[.i64],[.i64],[.i64],[.i64],[.i64],[.i64]] underlying27 ⟨_,_,rfl,rfl,aP3,_,_,rfl,rfl,aP3,_,_,rfl,rfl,aUa,_,_,rfl,rfl,aUa,_,_,rfl,rfl,aUa,_,_,rfl,rfl,aUa,rfl⟩ (by kernel_rfl)
theorem bF3:aPn prog 29 [.i64,.i64,.i64]:=bD7 [[.i64],[.i64],[.i64]] underlying29 ⟨_,_,rfl,rfl,aP3,_,_,rfl,rfl,aP3,_,_,rfl,rfl,aP3,rfl⟩ (by kernel_rfl)
theorem bF1:aPn prog 31 [.u32,.i64,.i64,.i64,.i64,.i64,.i64,.i64,.i64,.i64,.i64,.i64,.i64,.i64,.i64,.i64,.i64,.i64,.i64,.i64,.i64,.i64,.i64]:=bD7 [[.u32,.i64,.i64,.i64],[.i64,.i64,.i64,.i64,.i64,.i64],[.i64,.i64,.i64],[.i64],[.i64],[.i64],[.i64],[.i64],[.i64],[.i64],[.i64],[.i64],[.i64]] underlying31 ⟨_,_,rfl,rfl,bF4,_,_,rfl,rfl,bF2,_,_,rfl,rfl,bF3,_,_,rfl,rfl,aUa,_,_,rfl,rfl,aP3,_,_,rfl,rfl,aP3,_,_,rfl,rfl,aUa,_,_,rfl,rfl,aUa,_,_,rfl,rfl,aUa,_,_,rfl,rfl,aP3,_,_,rfl,rfl,aP3,_,_,rfl,rfl,aP3,_,_,rfl,rfl,aP3,rfl⟩ (by kernel_rfl)
theorem bH4:∀cs,aPd [.u32,.i64,.i64,.i64,.i64,.i64,.i64,.i64,.i64,.i64,.i64,.i64,.i64,.i64,.i64,.i64,.i64,.i64,.i64,.i64,.i64,.i64,.i64] cs→∃a:dF,aAe a=cs:=by rintro _ ⟨x0,_,rfl,-,x1,_,rfl,-,x2,_,rfl,-,x3,_,rfl,-,x4,_,rfl,-,x5,_,rfl,-,x6,_,rfl,-,x7,_,rfl,-,x8,_,rfl,-,x9,_,rfl,-,x10,_,rfl,-,x11,_,rfl,-,x12,_,rfl,-,x13,_,rfl,-,x14,_,rfl,-,x15,_,rfl,-,x16,_,rfl,-,x17,_,rfl,-,x18,_,rfl,-,x19,_,rfl,-,x20,_,rfl,-,x21,_,rfl,-,x22,_,rfl,-,rfl⟩;exact⟨⟨x0,x1,x2,x3,x4,x5,x6,x7,x8,x9,⟨x10,x11,x12⟩,x13,x14,x15,x16,x17,x18,x19,x20,x21,x22⟩,rfl⟩
theorem bP.partS{w0:World}{W:Nat→Prop}{A B:Option Addr}{m c k:Nat}{κ:IntKind}{xs:List Int}(hr:bP w0 W A m c 1 (aD κ xs))(hB:aP8 A c k m B)(hk:k≤m):bP w0 W B (m-k) (c-k) 1 (aD κ (xs.drop k)):=by
 have hxl:xs.length=m:=by obtain⟨_,_,_,_,_,h3,_⟩:=hr.h;simpa using h3
 rcases hB with rfl|hB
 ·have:=hr.sub hk (Nat.le_refl m)
  rwa [List.take_of_length_le (by rw[List.length_drop];omega)]at this
 ·obtain⟨A',c',e1,h1,h2,h3,h4⟩:=hr.h;injection e1 with e1 e2 e3;subst e1 e3;have e:xs.drop k=[]:=List.drop_eq_nil_of_le oo;rw[e];exact⟨⟨B,c-k,rfl,oo,oo,by simp[aD];omega,fun hp=>by omega⟩⟩
theorem bP.go9{w0 w:World}{W:Nat→Prop}{H S R:List HE}{A:Option Addr}{m c s:Nat}{xs:List Value}(h:bP w0 W A m c s xs)(hw:St w0 W H w)(hs:aC H S R):bP w (bB S) A m c s xs:=⟨h.h.go hw hs⟩
theorem bFg(ys f:List Int)(d g k:Nat)(s:aK)(a:bQ)(ds:List jT)(x1 x2:gX)(T:List HE)(b:Int)(A:Option Addr)(c:Nat)(wt:List Int)(lost:Int)(l:List lM)(told:Int)(B:Option Addr)(e m:Nat)(bs:List Int)(hbm:bs.length=m)(w:World)(hown:aZ (drH d g A wt.length c lost l told::aF7 A c wt::tB g s a ds x1 x2 T) w)
  (hr:bP w (bB (drH d g A wt.length c lost l told::aF7 A c wt::tB g s a ds x1 x2 T)) B m e 1 (aD .u8 bs)) (hI:NvI ys f k b s a ds x1 x2 T) (hu:dL wt) (hub:dL bs) (hm:wt.length+m≤100000) (hlo:0≤lost∧lost≤1000000) (hk:k≤10000) (hb:b≤6000000*(k:Int)) (hl:l.length≤100000) (htd:0≤told∧told≤1000000) :
  aF prog 16 [.pointer (some ⟨d,0,none⟩),.slice B m e] (drH d g A wt.length c lost l told::aF7 A c wt::tB g s a ds x1 x2 T) w (fun v S'=>DvR ys f k b d g lost l told (aDg (wt++bs)) (aE4 (wY ys) (hY ys) f s (aDg (wt++bs)).1) v S'):=by
 subst hbm;exact bDi ys f d g k s a ds x1 x2 T b A c wt lost l told B e bs w hown hr hI hu hub hm hlo hk hb hl htd
attribute [local irreducible] OJ J bM Code.wpIn wpListIn Oper.wpIn bodyPost CallsIn aF
theorem bFq(a:Int)(ha:bG .u8 a)(b:Int)(hb:bG .u8 b)(A:Option Addr)(c:Nat)(z:List Int){w:World}(hr:bP w (bB []) A z.length c 1 (aD .i16 z))(hz:∀x∈z,bG .i16 x)(cf:dF)(x:Int)(hx:bG .i64 x)(y:Int)(hy:bG .i64 y)(B:Option Addr)(e:Nat)(bs:List Int)(hrb:bP w (bB []) B bs.length e 1 (aD .u8 bs))(hbs:∀x∈bs,bG .u8 x)(Cc:Option Addr)(cc9:Nat)(cs:List Int)(hrc:bP w (bB []) Cc cs.length cc9 1 (aD .u8 cs))(hcs:∀x∈cs,bG .u8 x):
  aF prog 3 [.int .u8 a,.int .u8 b,.slice A z.length c,.agg (aAe cf).toArray,.agg #[.int .i64 x,.int .i64 y],.slice B bs.length e,.slice Cc cs.length cc9] [] w (fun v _=>v=.bool true):=by
 have hub:dL bs:=fun x hx=>by have h:0≤x∧x≤255:=hbs x hx;omega
 have iW:CV prog 12 [] (.bool true) True:=⟨fun _ w=>bH5 w⟩;have iLt:=light28_cv A z.length c B bs.length e;have iCk:=navcheck_cv cf;have ha1:0≤a∧a≤255:=ha;have hb1:0≤b∧b≤255:=hb;obtain⟨W,hW,hW1⟩:∃x:Nat,2+(10+a%29)%39=(x:Int)∧2≤x∧x≤40:=⟨(2+(10+a%29)%39).toNat,oo,oo⟩;obtain⟨H,hH,hH1⟩:∃x:Nat,2+(10+b%29)%39=(x:Int)∧2≤x∧x≤40:=⟨(2+(10+b%29)%39).toNat,oo,oo⟩;refine aJ func3 rfl ntmps3 rfl ⟨aE,.nil⟩ (fun n=>?_);simp only[aG];by_cases hL:z.length≤1500∧bs.length≤1500
 rotate_left
 ·rw[decide_eq_false hL]at iLt;refine aB;exact aM rfl rfl (.nil _) rfl
 rw[decide_eq_true hL]at iLt;by_cases hc6:cs.length≤60
 rotate_left
 ·have iG:∀w0 W H t u a b,MS prog w0 W H (.binOp .gtr t a b u) [.int .i64 ((cs.length:Nat):Int),.int .i64 60] (.bool true) True:=fun _ _ _ _ _ _ _=>cD inferInstance trivial (congrArg Value.bool (decide_eq_true oo));refine aB;exact aM rfl rfl (.nil _) rfl
 have iG:∀w0 W H t u a b,MS prog w0 W H (.binOp .gtr t a b u) [.int .i64 ((cs.length:Nat):Int),.int .i64 60] (.bool false) True:=fun _ _ _ _ _ _ _=>cD inferInstance trivial (congrArg Value.bool (decide_eq_false oo));by_cases hC:oR cf=0
 rotate_left
 ·have iN:∀w0 W H t u a b,MS prog w0 W H (.binOp .neq t a b u) [.int .i64 (oR cf),.int .i64 0] (.bool true) True:=fun _ _ _ _ _ _ _=>cD inferInstance trivial (congrArg Value.bool (by simpa using hC));refine aB;exact aM rfl rfl (.nil _) rfl
 rw[hC]at iCk;refine aB;refine lf rfl rfl rfl (S:=[]) (fun w hw ho=>aVz (10+a%29) (10+b%29) (by show (0:Int)≤_∧_≤(255:Int);omega) (by show (0:Int)≤_∧_≤(255:Int);omega) W H hW hH A c z 29 od 0 0 w ⟨hr.h.go hw (aC.nil _)⟩ oo) ?_;rintro v S' ⟨Af,cfl,rfl,rfl⟩;have hfl:=aK0 z (W*H);have hfi:=aTa hz (W*H);generalize lQ z (W*H)=f at *;rw[show (1+29%1000:Int)=((30:Nat):Int) by decide];have hcb:2≤W∧W≤256∧2≤H∧H≤256∧1≤30∧30≤1000:=oo;have hF:=aRh (ox:=0) (oy:=0) hcb hfl hfi (by omega:1≤8∧8≤32);refine aB;refine lf rfl rfl rfl (S:=[]) (fun w hw ho=>aQt W H 30 Af cfl f 0 0 w ⟨Ro.row hw (aC.nil _) (by refine cF)⟩ hcb hfl hfi od od) ?_;rintro v S' ⟨Ab,cb,rfl,rfl⟩;have hu:=hF.u8;have hln:=hF.len;generalize fK W H 30 0 0 f=bb at *;have hinv:∀s0 a T,NwA bb cf x y s0 a T→NvI bb f 0 0 s0 a [] (none,0,[]) (none,0,[]) T:=fun s0 a T h=>h.inv hC ⟨hx,hy⟩ hF;refine aB;rename_i b10 b11;refine lf rfl rfl rfl (S:=[]) (fun w hw ho=>bDh Ab cb bb cf x y w ⟨Ro.row hw (aC.nil _) (by refine cF)⟩ hu hln) ?_;rintro v S' hv;obtain⟨d,g,s0,a0,T,rfl,rfl,hA⟩:=hv.of hC;have hI:=hinv s0 a0 T hA;have iE0:∀w0 W H t u a b,MS prog w0 W H (.binOp .neq t a b u) [.int .i64 0,.int .i64 0] (.bool false) True:=fun _ _ _ _ _ _ _=>cD inferInstance trivial rfl;refine aCr ?_;simp only[List.cons_append,List.nil_append];refine aB;refine dH (e:=5) (size:=1) ?_;refine dH (e:=5) (size:=1) ?_;refine jP (H':=.row (.slice none 0 0) 5 1 0 []::.blk b10 31 (aAe cf)::.blk b11 33 [.int .i64 x,.int .i64 y]::aF7 Ab cb bb::drH d g none 0 0 0 [] 0::.row (.slice none 0 0) 5 1 0 []::tB g s0 a0 [] (none,0,[]) (none,0,[]) T) (by exact aA.au) ?_;have hfo:=fun k=>bD9 (bs.take k).length (bs.take k) (Nat.le_refl _) (fun x hx=>hub x (List.mem_of_mem_take hx));have hro:=fun k=>bDp (wY bb) (hY bb) f (aDg (bs.take k)).1 s0 0 (fun x hx'=>((hfo k).1 x hx').1) hI.ok hI.near (by have:=(hfo k).2.1;rw[List.length_take]at this;omega);refine cG (X:=Nat×Nat×Option Addr×(Option Addr×Nat)×(Option Addr×Nat)×bQ×List jT×gX×gX×List HE) (fun q=>q.1≤cs.length∧q.2.1≤bs.length∧aP8 B e q.2.1 bs.length q.2.2.1∧NvI bb f (aDg (bs.take q.2.1)).1.length (6000000*((aDg (bs.take q.2.1)).1.length:Int)) (aE4 (wY bb) (hY bb) f s0 (aDg (bs.take q.2.1)).1).1 q.2.2.2.2.2.1 q.2.2.2.2.2.2.1 q.2.2.2.2.2.2.2.1 q.2.2.2.2.2.2.2.2.1 q.2.2.2.2.2.2.2.2.2)
  (fun q=>[(5,.slice B bs.length e),(6,.slice Cc cs.length cc9),(10,.pointer (some ⟨b10,0,none⟩)),(11,.pointer (some ⟨b11,0,none⟩)),(15,.slice Ab bb.length cb),(16,.pointer (some ⟨d,0,none⟩)),(18,.slice q.2.2.2.1.1 ((aE4 (wY bb) (hY bb) f s0 (aDg (bs.take q.2.1)).1).2.flatMap aDn).length q.2.2.2.1.2),(19,.slice q.2.2.1 (bs.length-q.2.1) (e-q.2.1)),(20,.int .i64 q.1)])
  (fun q=>aF7 q.2.2.2.1.1 q.2.2.2.1.2 ((aE4 (wY bb) (hY bb) f s0 (aDg (bs.take q.2.1)).1).2.flatMap aDn)::.blk b10 31 (aAe cf)::.blk b11 33 [.int .i64 x,.int .i64 y]::aF7 Ab cb bb::drH d g q.2.2.2.2.1.1 (aDg (bs.take q.2.1)).2.2.length q.2.2.2.2.1.2 ((aDg (bs.take q.2.1)).2.1:Nat) (aDg (bs.take q.2.1)).1 ((aE4 (wY bb) (hY bb) f s0 (aDg (bs.take q.2.1)).1).2.length:Nat)::aF7 q.2.2.2.2.1.1 q.2.2.2.2.1.2 (aDg (bs.take q.2.1)).2.2::tB g (aE4 (wY bb) (hY bb) f s0 (aDg (bs.take q.2.1)).1).1 q.2.2.2.2.2.1 q.2.2.2.2.2.2.1 q.2.2.2.2.2.2.2.1 q.2.2.2.2.2.2.2.2.1 q.2.2.2.2.2.2.2.2.2) (fun q=>cs.length-q.1) (0,0,B,(none,0),(none,0),a0,[],(none,0,[]),(none,0,[]),T) ⟨Nat.zero_le _,Nat.zero_le _,aP8.zeroN,hI⟩ ⟨rfl,rfl,rfl,rfl,rfl,rfl,rfl,rfl,rfl,trivial⟩ (by exact aA.refl _) ?_
 rintro⟨i,k,Bx,⟨Ao,co⟩,⟨A3,c3⟩,a1,ds1,y1,y2,T1⟩ ⟨hi,hk,hB,hI1⟩;dsimp only at hi hk hB hI1 ⊢;obtain⟨-,o2,o3,-⟩:=hfo k;obtain⟨-,-,r3,r4⟩:=hro k;have hbl:=bCy _ (fun y hy=>(r4 y hy).2.1);rw[List.length_take,Nat.min_eq_left hk]at o2;have hBr:=hrb.partS hB hk;have step:∀n,k+n≤bs.length→aDg (bs.take (k+n))=((aDg (bs.take k)).1++(aDg ((aDg (bs.take k)).2.2++(bs.drop k).take n)).1,(aDg (bs.take k)).2.1+(aDg ((aDg (bs.take k)).2.2++(bs.drop k).take n)).2.1,(aDg ((aDg (bs.take k)).2.2++(bs.drop k).take n)).2.2):=by intro n hn;rw[← bDx (bs.take k).length (bs.take k) ((bs.drop k).take n) (Nat.le_refl _),List.take_add]
 have hPu:=fun n (hn:k+n≤bs.length) B2 e2 m2 (hm2:((bs.drop k).take n).length=m2) w ho hr=>bFg bb f d g (aDg (bs.take k)).1.length (aE4 (wY bb) (hY bb) f s0 (aDg (bs.take k)).1).1 a1 ds1 y1 y2 T1 (6000000*((aDg (bs.take k)).1.length:Int)) A3 c3 (aDg (bs.take k)).2.2 ((aDg (bs.take k)).2.1:Nat) (aDg (bs.take k)).1 ((aE4 (wY bb) (hY bb) f s0 (aDg (bs.take k)).1).2.length:Nat) B2 e2 m2 ((bs.drop k).take n) hm2 w ho hr hI1 o3 (fun x hx=>hub x (List.mem_of_mem_drop (List.mem_of_mem_take hx))) (by have:=hm2;rw[List.length_take,List.length_drop]at this;omega) oo oo oo oo oo;have hst:=fun n=>bEa (wY bb) (hY bb) f (aDg (bs.take k)).1 (aDg ((aDg (bs.take k)).2.2++(bs.drop k).take n)).1 s0;rcases Nat.lt_or_ge i cs.length with h|h
 ·have hcu:0≤cs.getD i 0∧cs.getD i 0≤255:=by rw[List.getD_eq_getElem?_getD,List.getElem?_eq_getElem h];exact hcs _ (List.getElem_mem h)
  obtain⟨bC9,oC9,rfl,hCr⟩:=hrc.at_ (by omega:0<cs.length);obtain⟨n,hn⟩:∃n:Nat,min (cs.getD i 0) ((bs.length-k:Nat):Int)=(n:Int):=⟨(min (cs.getD i 0) ((bs.length-k:Nat):Int)).toNat,oo⟩;have hkn:k+n≤bs.length:=oo;have iMin:∀w0 W H a b ts,MS prog w0 W H (.call ⟨.builtin .min,#[a,b],ts⟩) [.int .i64 (cs.getD i 0),.int .i64 ((bs.length-k:Nat):Int)] (.int .i64 (n:Nat)) True:=fun _ _ _ _ _ _=>cD inferInstance trivial (congrArg (Value.int .i64) hn);have hek:bs.length-k≤e-k:=by obtain⟨_,_,q0,q1,-⟩:=hrb.h;injection q0 with _ _ q0;omega
  have hP:=fun B2 e2 m2 hm2 w ho hr=>hPu n hkn B2 e2 m2 hm2 w ho hr;have hs1:=step n hkn;have hs2:=hst n;have hm2:((bs.drop k).take n).length=n-0:=by rw[List.length_take,List.length_drop];omega
  obtain⟨-,o2',-,-⟩:=hfo (k+n);obtain⟨-,-,r3',r4'⟩:=hro (k+n);have hbl':=bCy _ (fun y hy=>(r4' y hy).2.1);rw[List.length_take,Nat.min_eq_left hkn]at o2';rw[hs1]at o2' r3' hbl';dsimp only at o2' r3' hbl';rw[hs2]at r3' hbl';dsimp only at r3' hbl';rw[List.flatMap_append,List.length_append]at hbl';generalize hG:aDg ((aDg (bs.take k)).2.2++(bs.drop k).take n)=G at *;generalize hF0:aDg (bs.take k)=F at *;generalize aE4 (wY bb) (hY bb) f s0 F.1=R at *;generalize aE4 (wY bb) (hY bb) f R.1 G.1=Q at *;refine aB;refine fO (S:=drH d g A3 F.2.2.length c3 (F.2.1:Nat) F.1 (R.2.length:Nat)::aF7 A3 c3 F.2.2::tB g R.1 a1 ds1 y1 y2 T1) rfl rfl (aC.preT _ [_,_,_,_]) rfl (fun w hw ho=>hP _ _ (n-0) hm2 w ho ((hBr.sub (l:=0) (h:=n) (Nat.zero_le _) oo).go9 hw (aC.preT _ [_,_,_,_]))) ?_;rintro v S' ⟨A5,c5,A6,c6,a2,ds2,z1,z2,T2,rfl,rfl,hI2⟩;refine aCr ?_;simp only[List.cons_append,List.nil_append];refine aB;rename_i A7 c7;have hbe:bs.length≤e:=by obtain⟨_,_,q0,q1,-⟩:=hrb.h;injection q0 with _ _ q0;omega
  refine aR (i+1,k+n,nV Bx n (e-k) 1,(A7,c7),(A6,c6),a2,ds2,z1,z2,T2) ⟨h,hkn,hB.step hbe n,?_⟩ (by show cs.length-(i+1)<cs.length-i;omega) ?_ ?_
  ·dsimp only;rw[hs1];dsimp only;rw[hs2];dsimp only;exact hI2.up (by rw[List.length_append];omega) (by rw[List.length_append];push_cast;omega)
  ·dsimp only;rw[hs1];dsimp only;rw[hs2];dsimp only;rw[List.flatMap_append,Nat.sub_add_eq,Nat.sub_add_eq];exact⟨rfl,rfl,rfl,rfl,rfl,rfl,rfl,rfl,by simp[aI],trivial⟩
  ·dsimp only;rw[hs1];dsimp only;rw[hs2];dsimp only;rw[List.flatMap_append,show (R.2++Q.2).length=R.2.length+Q.2.length from List.length_append,Int.natCast_add,Int.natCast_add];exact aA.au
 have e9:(bs.drop k).take (bs.length-k)=bs.drop k:=List.take_of_length_le (by rw[List.length_drop];omega);have ek:bs.take (k+(bs.length-k))=bs:=List.take_of_length_le oo;have hP:=fun w ho hr=>hPu (bs.length-k) oo Bx (e-k) (bs.length-k) (by rw[e9,List.length_drop]) w ho hr;have hs1:=step (bs.length-k) oo;have hs2:=hst (bs.length-k);rw[ek]at hs1;rw[e9]at hP hs1 hs2;have o9:=bD9 bs.length bs (Nat.le_refl _) hub;have r9:=bDp (wY bb) (hY bb) f (aDg bs).1 s0 0 (fun x hx'=>(o9.1 x hx').1) hI.ok hI.near oo;have b9:=bCy _ (fun y hy=>(r9.2.2.2 y hy).2.1);have ou:dL ((aE4 (wY bb) (hY bb) f s0 (aDg bs).1).2.flatMap aDn):=by intro x hx;rw[List.mem_flatMap]at hx;obtain⟨q,-,hq⟩:=hx;exact bE1 q x hq
 obtain⟨-,o2',-,-⟩:=o9;obtain⟨-,-,r3',-⟩:=r9;have hFl:=fun w (h1:bP w (bB []) Ab bb.length cb 1 (aD .u8 bb)) (h2:bP w (bB []) B bs.length e 1 (aD .u8 bs))=>bEl bb f Ab cb bb cf x y B e bs w h1 h2 hu hub hln oo hC hinv;unfold FlR at hFl;rw[hs1]at r3' b9 ou hFl o2';dsimp only at r3' b9 ou hFl o2';generalize hG:aDg ((aDg (bs.take k)).2.2++bs.drop k)=G at *;generalize aDg (bs.take k)=F at *;rw[hs2]at r3' b9 ou;dsimp only at r3' b9 ou;rw[List.length_append,List.length_append]at r3';rw[List.length_append]at o2';rw[List.flatMap_append,List.length_append,List.length_append]at b9;rw[List.flatMap_append]at ou;have hFl2:∀w (h1:bP w (bB []) Ab bb.length cb 1 (aD .u8 bb)) (h2:bP w (bB []) B bs.length e 1 (aD .u8 bs)),aF prog 17 [.slice Ab bb.length cb,.agg (aAe cf).toArray,.agg #[.int .i64 x,.int .i64 y],.slice B bs.length e] [] w (fun v S'=>∃Ao co,v=.tuple #[.slice Ao (((aE4 (wY bb) (hY bb) f s0 F.1).2).flatMap aDn++((aE4 (wY bb) (hY bb) f (aE4 (wY bb) (hY bb) f s0 F.1).1 G.1).2).flatMap aDn).length co,.int .i64 0]∧S'=[aF7 Ao co (((aE4 (wY bb) (hY bb) f s0 F.1).2).flatMap aDn++((aE4 (wY bb) (hY bb) f (aE4 (wY bb) (hY bb) f s0 F.1).1 G.1).2).flatMap aDn)]):=by intro w h1 h2;refine(hFl w h1 h2).mono ?_;rintro v S' ⟨Ao,co,s9,h5,h6,hp,-,-⟩;obtain rfl:=NwP.one hp hA.p;rw[hs2]at h5 h6;dsimp only at h5 h6;rw[List.flatMap_append]at h5 h6;exact⟨Ao,co,h5,h6⟩
 clear hFl hs1 hs2 step hst hPu hro hfo;generalize aE4 (wY bb) (hY bb) f s0 F.1=R at *;generalize aE4 (wY bb) (hY bb) f R.1 G.1=Q at *;refine aB;refine fO (S:=drH d g A3 F.2.2.length c3 (F.2.1:Nat) F.1 (R.2.length:Nat)::aF7 A3 c3 F.2.2::tB g R.1 a1 ds1 y1 y2 T1) rfl rfl (aC.preT _ [_,_,_,_]) rfl (fun w hw ho=>hP w ho (hBr.go9 hw (aC.preT _ [_,_,_,_]))) ?_;rintro v S' ⟨A5,c5,A6,c6,a2,ds2,z1,z2,T2,rfl,rfl,-⟩;refine aCr ?_;simp only[List.cons_append,List.nil_append];refine aB;rename_i A7 c7;generalize R.2.flatMap aDn++Q.2.flatMap aDn=ob at *;refine lf rfl rfl rfl (S:=[]) (fun w hw ho=>hFl2 w ⟨Ro.row hw (aC.nil _) (by refine cF)⟩ ⟨hrb.h.go hw (aC.nil _)⟩) ?_;rintro v S' ⟨A8,c8,rfl,rfl⟩;simp only[List.cons_append,List.nil_append];refine aB;refine lf rfl rfl rfl (S:=[]) (Rl:=fun v S'=>v=.bool true∧S'=[]) (fun w hw ho=>(bGu A7 A8 c7 c8 ob ob w ⟨Ro.row hw (aC.nil _) (by refine cF)⟩ ⟨Ro.row hw (aC.nil _) (by refine cF)⟩ ou ou).mono (fun v S' h=>by simpa using h)) ?_;rintro v S' ⟨rfl,rfl⟩;simp only[List.cons_append,List.nil_append];refine aB;exact aM (S':=[]) rfl rfl (.nil _) rfl
