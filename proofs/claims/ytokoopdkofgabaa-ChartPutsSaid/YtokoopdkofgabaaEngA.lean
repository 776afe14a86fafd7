/- The engine: steps that part by cases on their own; calls whose contract is an instance; loops of a known number of rounds. -/
import Derived.Test.YtokoopdkofgabaaEngR
import Derived.LoopNIn
namespace Go.Proofs.Ytokoopdkofgabaa
open Go.RowKit

/-- What a truth value says. -/
class BoolP (c : Bool) (p : outParam Prop) : Prop where h : c = true ↔ p
instance (p : Prop) [Decidable p] : BoolP (decide p) p := ⟨decide_eq_true_iff⟩
instance (a b : Int) : BoolP (a == b) (a = b) := ⟨by simp⟩
instance (a b : Int) : BoolP (a != b) (a ≠ b) := ⟨by simp⟩
instance (c : Bool) (p : Prop) [h : BoolP c p] : BoolP (!c) (¬ p) := ⟨by rw [← h.h]; cases c <;> simp⟩
instance (c d : Bool) (p q : Prop) [h : BoolP c p] [g : BoolP d q] : BoolP (c == d) (p ↔ q) := ⟨by rw [← h.h, ← g.h]; cases c <;> cases d <;> simp⟩
theorem BoolP.no {c : Bool} {p : Prop} [h : BoolP c p] (hc : c = false) : ¬ p := fun hp => by rw [h.h.2 hp] at hc; cases hc
/-- A call that yields v and leaves memory. -/
class CV (P : Program) (f : FuncId) (us : List Value) (v : outParam Value) (c : outParam Prop) : Prop where h : c → ∀ w, Does P f us [] w fun u S' => u = v ∧ S' = []
section
variable {F : Fence} {n : Nat} {P : Program} {N : Nat} {ds : List Deferred} {w0 : World} {W : Nat → Prop} {σ : List (Nat × Value)} {H : List HE} {Q : Exit → Act → World → Prop}
variable {ops : Array Oper} {rest : List Oper} {o : Oper} {p : Prop} {T : List (Nat × Value) → Prop}
theorem j_dec (t : Nat) {c : Bool} [hb : BoolP c p] {q : Act → World → Prop} (hl : look σ t = some (.bool c)) (ht : p → J N ds w0 W ((t, .bool true) :: σ) H q) (hf : ¬ p → J N ds w0 W ((t, .bool false) :: σ) H q) : J N ds w0 W σ H q :=
  j_case t hl (fun h => ht (hb.h.1 h)) (fun h => hf (BoolP.no h))
/-- These ask whether a guard is known already. -/
theorem l_lit (b0 : Bool) {j t : Nat} {b : Bool} (hg : o.guard = some (j, b)) (ht : (ops[j]?).bind (·.dst) = some t) (hv : look σ t = some (.bool b0)) (h : J N ds w0 W σ H (wpListIn F n P ops Q (o :: rest))) : J N ds w0 W σ H (wpListIn F n P ops Q (o :: rest)) := h
theorem h_lit (b0 : Bool) {j t : Nat} {b : Bool} {l : List Oper} {k : Act → World → Prop} (hg : o.guard = some (j, b)) (ht : (ops[j]?).bind (·.dst) = some t) (hv : look σ t = some (.bool b0)) (h : HdJ F n P N ds w0 W H ops (o :: l) σ (fun τ => J N ds w0 W τ H k)) : HdJ F n P N ds w0 W H ops (o :: l) σ (fun τ => J N ds w0 W τ H k) := h
theorem x_lit (b0 : Bool) {HL : List HE} {j t : Nat} {b : Bool} {l : List Oper} {k : Act → World → Prop} (hg : o.guard = some (j, b)) (ht : (ops[j]?).bind (·.dst) = some t) (hv : look σ t = some (.bool b0)) (h : HdL P N w0 W HL ops (o :: l) σ (fun τ => J N ds w0 W τ H k)) : HdL P N w0 W HL ops (o :: l) σ (fun τ => J N ds w0 W τ H k) := h
theorem l_gd {j t : Nat} {b c : Bool} [hb : BoolP c p] (hg : o.guard = some (j, b)) (ht : (ops[j]?).bind (·.dst) = some t) (hv : look σ t = some (.bool c))
    (h1 : p → J N ds w0 W ((t, .bool true) :: σ) H (wpListIn F n P ops Q (o :: rest))) (h2 : ¬ p → J N ds w0 W ((t, .bool false) :: σ) H (wpListIn F n P ops Q (o :: rest))) : J N ds w0 W σ H (wpListIn F n P ops Q (o :: rest)) := j_dec t hv h1 h2
theorem h_gd {j t : Nat} {b c : Bool} {l : List Oper} {k : Act → World → Prop} [hb : BoolP c p] (hg : o.guard = some (j, b)) (ht : (ops[j]?).bind (·.dst) = some t) (hv : look σ t = some (.bool c))
    (h1 : p → HdJ F n P N ds w0 W H ops (o :: l) ((t, .bool true) :: σ) (fun τ => J N ds w0 W τ H k)) (h2 : ¬ p → HdJ F n P N ds w0 W H ops (o :: l) ((t, .bool false) :: σ) (fun τ => J N ds w0 W τ H k)) :
    HdJ F n P N ds w0 W H ops (o :: l) σ (fun τ => J N ds w0 W τ H k) := h_case t hv (fun h => h1 (hb.h.1 h)) (fun h => h2 (BoolP.no h))
theorem x_gd {HL : List HE} {j t : Nat} {b c : Bool} {l : List Oper} {k : Act → World → Prop} [hb : BoolP c p] (hg : o.guard = some (j, b)) (ht : (ops[j]?).bind (·.dst) = some t) (hv : look σ t = some (.bool c))
    (h1 : p → HdL P N w0 W HL ops (o :: l) ((t, .bool true) :: σ) (fun τ => J N ds w0 W τ H k)) (h2 : ¬ p → HdL P N w0 W HL ops (o :: l) ((t, .bool false) :: σ) (fun τ => J N ds w0 W τ H k)) :
    HdL P N w0 W HL ops (o :: l) σ (fun τ => J N ds w0 W τ H k) := x_case t hv (fun h => h1 (hb.h.1 h)) (fun h => h2 (BoolP.no h))
theorem h_pT {d : Nat} {ty : TypeId} {pos : String} {aft : Array Edge} {gd : Option (Nat × Bool)} {x y z : Operand} {v : Value} {l : List Oper} [Wide F] (hw : wantd ops σ ⟨some d, .pick x y z, ty, pos, aft, gd⟩ = some true) (hc : ev σ x = some (.bool true)) (hx : ev σ y = some v) (hdN : Nat.blt d N = true)
    (h : HdJ F n P N ds w0 W H ops l ((d, v) :: σ) T) : HdJ F n P N ds w0 W H ops (⟨some d, .pick x y z, ty, pos, aft, gd⟩ :: l) σ T := h_run rfl hdN hw (fun _ _ hk => r_pickT hc hx hdN hk) h
theorem h_pF {d : Nat} {ty : TypeId} {pos : String} {aft : Array Edge} {gd : Option (Nat × Bool)} {x y z : Operand} {v : Value} {l : List Oper} [Wide F] (hw : wantd ops σ ⟨some d, .pick x y z, ty, pos, aft, gd⟩ = some true) (hc : ev σ x = some (.bool false)) (hx : ev σ z = some v) (hdN : Nat.blt d N = true)
    (h : HdJ F n P N ds w0 W H ops l ((d, v) :: σ) T) : HdJ F n P N ds w0 W H ops (⟨some d, .pick x y z, ty, pos, aft, gd⟩ :: l) σ T := h_run rfl hdN hw (fun _ _ hk => r_pickF hc hx hdN hk) h
theorem x_pT {HL : List HE} {d : Nat} {ty : TypeId} {pos : String} {aft : Array Edge} {gd : Option (Nat × Bool)} {x y z : Operand} {v : Value} {l : List Oper} (hw : wantd ops σ ⟨some d, .pick x y z, ty, pos, aft, gd⟩ = some true) (hc : ev σ x = some (.bool true)) (hx : ev σ y = some v) (hdN : Nat.blt d N = true)
    (h : HdL P N w0 W HL ops l ((d, v) :: σ) T) : HdL P N w0 W HL ops (⟨some d, .pick x y z, ty, pos, aft, gd⟩ :: l) σ T :=
  ⟨d, v, rfl, by simpa using hdN, .inl ⟨hw, fun ρ hρ w _ => by
    have h1 := hρ x (by simp [Op.operands]) _ hc
    have h2 := hρ y (by simp [Op.operands]) _ hx
    simp [execOp, h1, h2, asBool]⟩, h⟩
theorem x_pF {HL : List HE} {d : Nat} {ty : TypeId} {pos : String} {aft : Array Edge} {gd : Option (Nat × Bool)} {x y z : Operand} {v : Value} {l : List Oper} (hw : wantd ops σ ⟨some d, .pick x y z, ty, pos, aft, gd⟩ = some true) (hc : ev σ x = some (.bool false)) (hx : ev σ z = some v) (hdN : Nat.blt d N = true)
    (h : HdL P N w0 W HL ops l ((d, v) :: σ) T) : HdL P N w0 W HL ops (⟨some d, .pick x y z, ty, pos, aft, gd⟩ :: l) σ T :=
  ⟨d, v, rfl, by simpa using hdN, .inl ⟨hw, fun ρ hρ w _ => by
    have h1 := hρ x (by simp [Op.operands]) _ hc
    have h2 := hρ z (by simp [Op.operands]) _ hx
    simp [execOp, h1, h2, asBool]⟩, h⟩
theorem c_if {x : Operand} {y z : Code} {c : Bool} [hb : BoolP c p] (hc : ev σ x = some (.bool c)) (ht : p → J N ds w0 W σ H (y.wpIn F n P Q)) (hf : ¬ p → J N ds w0 W σ H (z.wpIn F n P Q)) :
    J N ds w0 W σ H ((Code.cond x y z).wpIn F n P Q) := c_cond hc (fun h => ht (hb.h.1 h)) (fun h => hf (BoolP.no h))
def stB (ops : Array Oper) (mask : List Bool) : Bool := (List.range ops.size).all fun i => match ops[i]? with
  | some o => match o.op with | .store .. => litB ops mask i | .call ⟨.builtin .append, _, _⟩ => litB ops mask i | _ => true
  | none => true
theorem c_dra {id : Nat} {l : List Oper} {mask : List Bool} {r : List Nat} [hF : Wide F] (hm : litMask l.toArray l 0 [] [] = mask) (hr : hvIdx l.toArray mask = r) (hmx : P.follows .mixedOrders = true) (hok : (maskOkX l.toArray mask && stB l.toArray mask) = true)
    (h : HdL P N w0 W H l.toArray (opsAt l.toArray (pvIdx l.toArray mask)) σ (fun τ => J N ds w0 W τ H (wpT F n P w0 W H l.toArray mask Q r.length r))) : J N ds w0 W σ H ((Code.region id l.toArray true).wpIn F n P Q) :=
  c_drx H mask r (Sub.refl _) hr hmx (by simp only [Bool.and_eq_true] at hok; exact hok.1) h
variable {dst : Nat} {f : FuncId} {args : Array Operand} {ts : Array TypeId} {us : List Value} {v : Value} {c : Prop} {ty : TypeId} {pos : String} {aft : Array Edge} {gd : Option (Nat × Bool)}
theorem lcv [Wide F] [WF F] [Cl P f]
    (hw : wantd ops σ ⟨some dst, .call ⟨.value (.func f), args, ts⟩, ty, pos, aft, gd⟩ = some true) (hv : vals σ args.toList = some us) [hc : CV P f us v c] (hdN : Nat.blt dst N = true) (hcc : c) (h : J N ds w0 W ((dst, v) :: σ) H (wpListIn F n P ops Q rest)) :
    J N ds w0 W σ H (wpListIn F n P ops Q (⟨some dst, .call ⟨.value (.func f), args, ts⟩, ty, pos, aft, gd⟩ :: rest)) := lfv hw hv hdN (fun w _ => hc.h hcc w) h
theorem hcv [Wide F] [WF F] [Cl P f]
    (hw : wantd ops σ ⟨some dst, .call ⟨.value (.func f), args, ts⟩, ty, pos, aft, gd⟩ = some true) (hv : vals σ args.toList = some us) [hc : CV P f us v c] (hdN : Nat.blt dst N = true) (hcc : c) (h : HdJ F n P N ds w0 W H ops rest ((dst, v) :: σ) T) :
    HdJ F n P N ds w0 W H ops (⟨some dst, .call ⟨.value (.func f), args, ts⟩, ty, pos, aft, gd⟩ :: rest) σ T := hfv hw hv hdN (fun w _ => hc.h hcc w) h
end
section
variable {P : Program} {w0 : World} {W : Nat → Prop} {H : List HE}
instance (priority := 10) (c x y : Operand) (u v : Value) : LV P w0 W H (.pick c x y) [.bool true, u, v] u True := ⟨by
  rintro _ ρ ⟨dst, op', ty, pos, aft, gd⟩ rfl h w _
  have h1 : ρ c = .bool true ∧ ρ x = u ∧ ρ y = v := by simpa [Op.operands] using h
  simp [execOp, h1.1, h1.2.1, asBool]⟩
instance (priority := 10) (c x y : Operand) (u v : Value) : LV P w0 W H (.pick c x y) [.bool false, u, v] v True := ⟨by
  rintro _ ρ ⟨dst, op', ty, pos, aft, gd⟩ rfl h w _
  have h1 : ρ c = .bool false ∧ ρ x = u ∧ ρ y = v := by simpa [Op.operands] using h
  simp [execOp, h1.1, h1.2.2, asBool]⟩
instance (priority := 60) (t u : TypeId) (x y : Operand) (k : IntKind) (a b : Int) : LV P w0 W H (.binOp .quo t x y u) [.int k a, .int k b] (.int k (a / b)) (0 ≤ a ∧ 0 < b ∧ InR k a) := ⟨by
  rintro ⟨h0, hb, hc⟩ ρ ⟨dst, op', ty, pos, aft, gd⟩ rfl h w _
  obtain ⟨h1, h2⟩ := map2 h
  have e : k.wrap (a.tdiv b) = a / b := by
    rw [Int.tdiv_eq_ediv_of_nonneg h0, wrap_in]
    have h3 : 0 ≤ a / b := Int.ediv_nonneg h0 (by omega)
    have h4 : a / b ≤ a := Int.ediv_le_self _ h0
    cases k <;> simp only [InR] at hc ⊢ <;> omega
  simp [execOp, h1, h2, eqGuard, binOp, Op.intDiv, show b ≠ 0 by omega, e]⟩
instance (priority := 60) (t u : TypeId) (x y : Operand) (k : IntKind) (a b : Int) : LV P w0 W H (.binOp .rem t x y u) [.int k a, .int k b] (.int k (a % b)) (0 ≤ a ∧ 0 < b) := ⟨by
  rintro ⟨h0, hb⟩ ρ ⟨dst, op', ty, pos, aft, gd⟩ rfl h w _
  obtain ⟨h1, h2⟩ := map2 h
  simp [execOp, h1, h2, eqGuard, binOp, Op.intDiv, show b ≠ 0 by omega, Int.tmod_eq_emod_of_nonneg h0]⟩
end
section
variable {F : Fence} {n : Nat} {P : Program} {N : Nat} {ds : List Deferred} {w0 : World} {W : Nat → Prop} {σ : List (Nat × Value)} {H : List HE} {Q : Exit → Act → World → Prop}
variable {ops : Array Oper} {rest : List Oper} {d : Nat} {ty : TypeId} {pos : String} {aft : Array Edge} {gd : Option (Nat × Bool)}
/-- An array, part by part. -/
theorem lba [Wide F] {t e m sz bs szt bst : Nat} {z ze : Value} {parts : Array (Nat × Operand)} {us : List (Nat × Value)} {cs : List Value} [hu : Und P t (.array m e)] [hI : Inf P t szt bst z] [he : Inf P e sz bs ze] (hw : wantd ops σ ⟨some d, .build t parts, ty, pos, aft, gd⟩ = some true) (hv : evs σ parts.toList = some us)
    [hcs : Flat us cs] (hf : Instr.fill (fun i => some (i * sz, sz)) z.cells us = some (us.flatMap (fun p => p.2.cells.toList)).toArray) (hdN : Nat.blt d N = true)
    (h : J N ds w0 W ((d, .agg cs.toArray) :: σ) H (wpListIn F n P ops Q rest)) : J N ds w0 W σ H (wpListIn F n P ops Q (⟨some d, .build t parts, ty, pos, aft, gd⟩ :: rest)) := by
  refine l_run hw (o_val (by simp) rfl hdN (fun a w ha _ => ?_) h)
  obtain ⟨i, h3, h4, -⟩ := hI.h
  obtain ⟨j, h5, -, h6, -⟩ := he.h
  have e1 : (List.map (fun x : Nat × Operand => match x with | (i, x) => (i, a.eval x)) parts.toList) = us := evs_map ha hv
  have hb : (Instr.build t (parts.map fun (i, x) => (i, a.eval x))).run P w = .ok (.agg cs.toArray) w := by
    unfold Instr.build
    have hz : (zeroValue t).run P w = .ok z w := by simp [zeroValue, typeInfo, h3, h4]
    have hs : (sizeOf e).run P w = .ok sz w := by simp [sizeOf, typeInfo, h5, h6]
    simp only [Sem.run_bind, hz, Result.andThen_ok, run_underlying hu.h, hs, Array.toList_map, e1, hf, hcs.h, Sem.run_pure]
  simp only [execOp, Sem.run_bind, hb, Result.andThen_ok, Sem.run_pure]
end
/-- Results, in slots or in memory. -/
class LdV (P : Program) (w0 : World) (W : Nat → Prop) (H : List HE) (ty b q : Nat) (v : outParam Value) : Prop where h : ∀ w, St w0 W H w → (loadVar ty ⟨b, q, none⟩).run P w = .ok v w
instance (priority := 100) (P : Program) (w0 : World) (W : Nat → Prop) (H : List HE) (t tb b q sz bs : Nat) (z : Value) (dd : TypeDesc) (o cs : List Value) (k : HE → List HE) [Und P t dd] [hd : YesAgg dd] [Inf P t sz bs z] [h : At b H tb cs k] [hg : Cut cs q sz o] : LdV P w0 W H t b q (.agg o.toArray) :=
  ⟨fun w hw => by
    obtain ⟨_, h4, _⟩ := h.h
    have hr : dd.isRow = true := by have := hd.h; cases dd <;> simp_all [aggB]
    exact run_loadVar_mid w b q t o dd (Range.cut h4 hg.h.1 w hw) (Und.h (P := P) (t := t)) hr (by rw [hg.h.2]; exact Inf.size)⟩
def ResL (P : Program) (w0 : World) (W : Nat → Prop) (H : List HE) (σ : List (Nat × Value)) : List ResultVar → List Value → Prop
  | [], vs => vs = []
  | .tmp t :: r, vs => ∃ v us, vs = v :: us ∧ look σ t = some v ∧ ResL P w0 W H σ r us
  | .cell t ty :: r, vs => ∃ v us b q, vs = v :: us ∧ look σ t = some (.pointer (some ⟨b, q, none⟩)) ∧ (∀ w, St w0 W H w → (loadVar ty ⟨b, q, none⟩).run P w = .ok v w) ∧ ResL P w0 W H σ r us
def retV : List Value → Value
  | [v] => v
  | vs => .tuple vs.toArray
section
variable {P : Program} {N : Nat} {w0 : World} {W : Nat → Prop} {σ : List (Nat × Value)} {H : List HE} {n : Nat}
theorem res_tmp {t : Nat} {v : Value} {r : List ResultVar} {us : List Value} (hv : look σ t = some v) (h : ResL P w0 W H σ r us) : ResL P w0 W H σ (.tmp t :: r) (v :: us) := ⟨v, us, rfl, hv, h⟩
theorem res_cell {t ty b q : Nat} {v : Value} {r : List ResultVar} {us : List Value} (hv : look σ t = some (.pointer (some ⟨b, q, none⟩))) [hl : LdV P w0 W H ty b q v] (h : ResL P w0 W H σ r us) : ResL P w0 W H σ (.cell t ty :: r) (v :: us) := ⟨v, us, b, q, rfl, hv, hl.h, h⟩
def resOp (tmps : Array Value) : ResultVar → Sem Value
  | .tmp t => pure (tmps.getD t undef)
  | .cell b t => do loadVar t (← asAddr (tmps.getD b undef))
theorem ResL.run {ds : List Deferred} {a : Act} {w : World} (ha : Tm N ds σ a) (hw : St w0 W H w) : ∀ {rs : List ResultVar} {vs : List Value}, ResL P w0 W H σ rs vs → (rs.mapM (resOp a.tmps)).run P w = Result.ok vs w
  | [], vs, h => by rw [show vs = [] from h]; rfl
  | .tmp t :: r, _, ⟨v, us, rfl, h1, h2⟩ => by
    have := ResL.run ha hw h2
    rw [List.mapM_cons, Sem.run_bind]
    simp only [resOp, Sem.run_pure, Result.andThen_ok, Sem.run_bind, this, getD_of ha h1]
  | .cell t ty :: r, _, ⟨v, us, b, q, rfl, h1, h3, h2⟩ => by
    have := ResL.run ha hw h2
    rw [List.mapM_cons, Sem.run_bind]
    simp only [resOp, Sem.run_bind, getD_of ha h1, asAddr, Sem.run_pure, Result.andThen_ok, h3 w hw, this]
theorem ResL.all {ds : List Deferred} {a : Act} {w : World} {fn : Func} {rs : List ResultVar} {vs : List Value} (ha : Tm N ds σ a) (hw : St w0 W H w) (hres : fn.results = rs.toArray) (h : ResL P w0 W H σ rs vs) : (results fn a.tmps).run P w = .ok (retV vs) w := by
  have h1 := h.run ha hw
  have e : results fn a.tmps = (fn.results.mapM (resOp a.tmps) >>= fun vs => pure (if h : vs.size = 1 then vs[0] else .tuple vs)) := by
    unfold results
    congr 1
  rw [e, hres, Sem.run_bind, List.mapM_toArray]
  have h2 : (List.toArray <$> rs.mapM (resOp a.tmps)).run P w = .ok vs.toArray w := by
    rw [map_eq_pure_bind, Sem.run_bind, h1]; rfl
  rw [h2]
  match vs with
  | [] => rfl
  | [v] => rfl
  | u :: v :: r => simp [retV]
theorem j_outG {fn : Func} {rs : List ResultVar} {vs : List Value} {S' : List HE} {Rl : Value → List HE → Prop} [hres : FRes fn rs] (hv : ResL P w0 W H σ rs vs) (hs : Sub S' H) (hR : Rl (retV vs) S') : J N [] w0 W σ H (bodyPost P fn (fun e w' => ∃ v S', e = .returned v ∧ Rl v S' ∧ St w0 W S' w') .ret) :=
  fun a w ha hw => ⟨ha.defers, _, hv.all ha hw hres.h, _, S', rfl, hR, hw.sub hs⟩
def ResK (P : Program) (w0 : World) (W : Nat → Prop) (H : List HE) (σ : List (Nat × Value)) (rs : List ResultVar) (K : List Value → Prop) : Prop := ∃ vs, ResL P w0 W H σ rs vs ∧ K vs
theorem k_nil {K : List Value → Prop} (h : K []) : ResK P w0 W H σ [] K := ⟨[], rfl, h⟩
theorem k_tmp {K : List Value → Prop} {t : Nat} {v : Value} {r : List ResultVar} (hv : look σ t = some v) (h : ResK P w0 W H σ r fun us => K (v :: us)) : ResK P w0 W H σ (.tmp t :: r) K := let ⟨us, h1, h2⟩ := h; ⟨v :: us, res_tmp hv h1, h2⟩
theorem k_cell {K : List Value → Prop} {t ty b q : Nat} {v : Value} {r : List ResultVar} (hv : look σ t = some (.pointer (some ⟨b, q, none⟩))) [hl : LdV P w0 W H ty b q v] (h : ResK P w0 W H σ r fun us => K (v :: us)) : ResK P w0 W H σ (.cell t ty :: r) K := let ⟨us, h1, h2⟩ := h; ⟨v :: us, res_cell hv h1, h2⟩
theorem j_outK {fn : Func} {rs : List ResultVar} {S' : List HE} {Rl : Value → List HE → Prop} [hres : FRes fn rs] (hs : Sub S' H) (h : ResK P w0 W H σ rs fun vs => Rl (retV vs) S') : J N [] w0 W σ H (bodyPost P fn (fun e w' => ∃ v S', e = .returned v ∧ Rl v S' ∧ St w0 W S' w') .ret) :=
  let ⟨_, h1, h2⟩ := h
  j_outG h1 hs h2
end
section
variable {F : Fence} {n : Nat} {P : Program} {N : Nat} {ds : List Deferred} {w0 : World} {W : Nat → Prop} {σ : List (Nat × Value)} {H : List HE} {T : List (Nat × Value) → Prop}
variable {ops : Array Oper} {rest : List Oper} {d : Nat} {ty : TypeId} {pos : String} {aft : Array Edge} {gd : Option (Nat × Bool)}
theorem hbd [Wide F] {t sz bs : Nat} {z : Value} {pl : List (Nat × Nat)} {parts : Array (Nat × Operand)} {us : List (Nat × Value)} {zs cs : List Value} [Pl P t pl] [Inf P t sz bs z] (hw : wantd ops σ ⟨some d, .build t parts, ty, pos, aft, gd⟩ = some true) (hv : evs σ parts.toList = some us)
    [hz : ZC z zs] [hl : Laid pl zs us cs] (hf : Instr.fill (pl.toArray[·]?) z.cells us = some (fillL pl z.cells.toList us).toArray) (hdN : Nat.blt d N = true)
    (h : HdJ F n P N ds w0 W H ops rest ((d, .agg cs.toArray) :: σ) T) : HdJ F n P N ds w0 W H ops (⟨some d, .build t parts, ty, pos, aft, gd⟩ :: rest) σ T :=
  h_run rfl hdN hw (fun _ _ hk => r_build hv (by rw [hz.h]; exact hl.h) hf hdN hk) h
end
section
variable {F : Fence} {n : Nat} {P : Program} {N : Nat} {ds : List Deferred} {w0 : World} {W : Nat → Prop} {σ : List (Nat × Value)} {H R : List HE} {Q : Exit → Act → World → Prop}
variable {l Nr : Nat} {σr : List (Nat × Value)} {ps : Array Tmp} {assign body : Code} {st : LoopState} {pend : Option Code} {S' S : List HE} {Rl : Value → List HE → Prop}
end
instance (priority := 5) {P : Program} {w0 : World} {W : Nat → Prop} {H : List HE} (c x y : Operand) (b v : Bool) : LV P w0 W H (.pick c x y) [.bool b, .bool true, .bool v] (.bool (b || v)) True := ⟨by
  rintro _ ρ ⟨dst, op', ty, pos, aft, gd⟩ rfl h w _
  have h1 : ρ c = .bool b ∧ ρ x = .bool true ∧ ρ y = .bool v := by simpa [Op.operands] using h
  cases b <;> simp [execOp, h1.1, h1.2.1, h1.2.2, asBool]⟩
end Go.Proofs.Ytokoopdkofgabaa
