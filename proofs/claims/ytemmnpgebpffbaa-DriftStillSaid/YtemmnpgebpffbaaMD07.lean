import Derived.LoopNIn
import Derived.Laws.BitsAllLaws
import Derived.Test.YtemmnpgebpffbaaMD06
set_option linter.unusedVariables false
set_option linter.unusedSimpArgs false
/- The engine: steps that part by cases on their own; calls whose contract is an instance; loops of a known number of rounds. -/
namespace Go.Proofs.Ytemmnpgebpffbaa
open Go.RowKit

/-- What a truth value says. -/
class BoolP (c : Bool) (p : outParam Prop) : Prop where h : c = true ↔ p
instance (priority := 10) (c : Bool) : BoolP c (c = true) := ⟨Iff.rfl⟩
instance (p : Prop) [Decidable p] : BoolP (decide p) p := ⟨decide_eq_true_iff⟩
instance (a b : Int) : BoolP (a == b) (a = b) := ⟨by simp⟩
instance (a b : Int) : BoolP (a != b) (a ≠ b) := ⟨by simp⟩
instance (c : Bool) (p : Prop) [h : BoolP c p] : BoolP (!c) (¬ p) := ⟨by rw [← h.h]; cases c <;> simp⟩
instance (c d : Bool) (p q : Prop) [h : BoolP c p] [g : BoolP d q] : BoolP (c && d) (p ∧ q) := ⟨by rw [← h.h, ← g.h]; cases c <;> cases d <;> simp⟩
instance (c d : Bool) (p q : Prop) [h : BoolP c p] [g : BoolP d q] : BoolP (c || d) (p ∨ q) := ⟨by rw [← h.h, ← g.h]; cases c <;> cases d <;> simp⟩
instance (c d : Bool) (p q : Prop) [h : BoolP c p] [g : BoolP d q] : BoolP (c == d) (p ↔ q) := ⟨by rw [← h.h, ← g.h]; cases c <;> cases d <;> simp⟩
instance (c d : Bool) (p q : Prop) [h : BoolP c p] [g : BoolP d q] : BoolP (c != d) (¬ (p ↔ q)) := ⟨by rw [← h.h, ← g.h]; cases c <;> cases d <;> simp⟩
theorem BoolP.no {c : Bool} {p : Prop} [h : BoolP c p] (hc : c = false) : ¬ p := fun hp => by rw [h.h.2 hp] at hc; cases hc
theorem bool_eq {c : Bool} {p : Prop} [h : BoolP c p] (d : Bool) (hd : d = true ↔ p) : c = d := by
  have := h.h
  cases c <;> cases d <;> simp_all

/-- A call that yields v and leaves memory. -/
class CV (P : Program) (f : FuncId) (us : List Value) (v : outParam Value) (c : outParam Prop) : Prop where h : c → ∀ w, Does P f us [] w fun u S' => u = v ∧ S' = []
/-- A number that is known. -/
class LitI (a : Int) (n : outParam Nat) : Prop where h : a = (n : Int)
instance (n : Nat) : LitI (no_index (OfNat.ofNat n : Int)) (OfNat.ofNat n) := ⟨rfl⟩
instance (a b : Int) (n m : Nat) [h : LitI a n] [g : LitI b m] : LitI (a + b) (n + m) := ⟨by rw [h.h, g.h]; push_cast; rfl⟩
section
variable {F : Fence} {n : Nat} {P : Program} {N : Nat} {ds : List Deferred} {w0 : World} {W : Nat → Prop} {σ : List (Nat × Value)} {H : List HE} {Q : Exit → Act → World → Prop}
variable {ops : Array Oper} {rest : List Oper} {o : Oper} {p : Prop} {T : List (Nat × Value) → Prop}
theorem j_dec (t : Nat) {c : Bool} [hb : BoolP c p] {q : Act → World → Prop} (hl : look σ t = some (.bool c)) (ht : p → J N ds w0 W ((t, .bool true) :: σ) H q) (hf : ¬ p → J N ds w0 W ((t, .bool false) :: σ) H q) : J N ds w0 W σ H q :=
  j_case t hl (fun h => ht (hb.h.1 h)) (fun h => hf (BoolP.no h))
/-- These ask whether a guard is known already. -/
theorem l_lit (b0 : Bool) {j t : Nat} {b : Bool} (hg : o.guard = some (j, b)) (ht : (ops[j]?).bind (·.dst) = some t) (hv : look σ t = some (.bool b0)) (h : J N ds w0 W σ H (wpListIn F n P ops Q (o :: rest))) : J N ds w0 W σ H (wpListIn F n P ops Q (o :: rest)) := h
theorem h_lit (b0 : Bool) {j t : Nat} {b : Bool} {l : List Oper} {k : Act → World → Prop} (hg : o.guard = some (j, b)) (ht : (ops[j]?).bind (·.dst) = some t) (hv : look σ t = some (.bool b0)) (h : HdJ F n P N ds w0 W H ops (o :: l) σ (fun τ => J N ds w0 W τ H k)) : HdJ F n P N ds w0 W H ops (o :: l) σ (fun τ => J N ds w0 W τ H k) := h
theorem x_lit (b0 : Bool) {HL : List HE} {j t : Nat} {b : Bool} {l : List Oper} {k : Act → World → Prop} (hg : o.guard = some (j, b)) (ht : (ops[j]?).bind (·.dst) = some t) (hv : look σ t = some (.bool b0)) (h : HdL P N w0 W HL ops (o :: l) σ (fun τ => J N ds w0 W τ H k)) : HdL P N w0 W HL ops (o :: l) σ (fun τ => J N ds w0 W τ H k) := h
theorem l_gd {j t : Nat} {b c : Bool} [hb : BoolP c p] (hg : o.guard = some (j, b)) (ht : (ops[j]?).bind (·.dst) = some t) (hv : look σ t = some (.bool c))
    (h1 : p → J N ds w0 W ((t, .bool true) :: σ) H (wpListIn F n P ops Q (o :: rest))) (h2 : ¬ p → J N ds w0 W ((t, .bool false) :: σ) H (wpListIn F n P ops Q (o :: rest))) : J N ds w0 W σ H (wpListIn F n P ops Q (o :: rest)) := j_dec t hv h1 h2
theorem h_gd {j t : Nat} {b c : Bool} {l : List Oper} {k : Act → World → Prop} [hb : BoolP c p] (hg : o.guard = some (j, b)) (ht : (ops[j]?).bind (·.dst) = some t) (hv : look σ t = some (.bool c))
    (h1 : p → HdJ F n P N ds w0 W H ops (o :: l) ((t, .bool true) :: σ) (fun τ => J N ds w0 W τ H k)) (h2 : ¬ p → HdJ F n P N ds w0 W H ops (o :: l) ((t, .bool false) :: σ) (fun τ => J N ds w0 W τ H k)) :
    HdJ F n P N ds w0 W H ops (o :: l) σ (fun τ => J N ds w0 W τ H k) := h_case t hv (fun h => h1 (hb.h.1 h)) (fun h => h2 (BoolP.no h))
theorem h_gdB {l : List Oper} {k : Act → World → Prop} (t : Nat) {c : Bool} [hb : BoolP c p] (hv : look σ t = some (.bool c))
    (h1 : p → HdJ F n P N ds w0 W H ops l ((t, .bool true) :: σ) (fun τ => J N ds w0 W τ H k)) (h2 : ¬ p → HdJ F n P N ds w0 W H ops l ((t, .bool false) :: σ) (fun τ => J N ds w0 W τ H k)) :
    HdJ F n P N ds w0 W H ops l σ (fun τ => J N ds w0 W τ H k) := h_case t hv (fun h => h1 (hb.h.1 h)) (fun h => h2 (BoolP.no h))
theorem x_gd {HL : List HE} {j t : Nat} {b c : Bool} {l : List Oper} {k : Act → World → Prop} [hb : BoolP c p] (hg : o.guard = some (j, b)) (ht : (ops[j]?).bind (·.dst) = some t) (hv : look σ t = some (.bool c))
    (h1 : p → HdL P N w0 W HL ops (o :: l) ((t, .bool true) :: σ) (fun τ => J N ds w0 W τ H k)) (h2 : ¬ p → HdL P N w0 W HL ops (o :: l) ((t, .bool false) :: σ) (fun τ => J N ds w0 W τ H k)) :
    HdL P N w0 W HL ops (o :: l) σ (fun τ => J N ds w0 W τ H k) := x_case t hv (fun h => h1 (hb.h.1 h)) (fun h => h2 (BoolP.no h))
theorem h_pT {d : Nat} {ty : TypeId} {pos : String} {aft : Array Edge} {gd : Option (Nat × Bool)} {x y z : Operand} {v : Value} {l : List Oper} [Wide F] (hw : wantd ops σ ⟨some d, .pick x y z, ty, pos, aft, gd⟩ = some true) (hc : ev σ x = some (.bool true)) (hx : ev σ y = some v) (hdN : Nat.blt d N = true)
    (h : HdJ F n P N ds w0 W H ops l ((d, v) :: σ) T) : HdJ F n P N ds w0 W H ops (⟨some d, .pick x y z, ty, pos, aft, gd⟩ :: l) σ T := h_run rfl hdN hw (fun _ _ hk => r_pickT hc hx hdN hk) h
theorem h_pF {d : Nat} {ty : TypeId} {pos : String} {aft : Array Edge} {gd : Option (Nat × Bool)} {x y z : Operand} {v : Value} {l : List Oper} [Wide F] (hw : wantd ops σ ⟨some d, .pick x y z, ty, pos, aft, gd⟩ = some true) (hc : ev σ x = some (.bool false)) (hx : ev σ z = some v) (hdN : Nat.blt d N = true)
    (h : HdJ F n P N ds w0 W H ops l ((d, v) :: σ) T) : HdJ F n P N ds w0 W H ops (⟨some d, .pick x y z, ty, pos, aft, gd⟩ :: l) σ T := h_run rfl hdN hw (fun _ _ hk => r_pickF hc hx hdN hk) h
theorem x_pT {HL : List HE} {d : Nat} {ty : TypeId} {pos : String} {aft : Array Edge} {gd : Option (Nat × Bool)} {x y z : Operand} {v : Value} {l : List Oper} (hw : wantd ops σ ⟨some d, .pick x y z, ty, pos, aft, gd⟩ = some true) (hc : ev σ x = some (.bool true)) (hx : ev σ y = some v) (hdN : Nat.blt d N = true)
    (h : HdL P N w0 W HL ops l ((d, v) :: σ) T) : HdL P N w0 W HL ops (⟨some d, .pick x y z, ty, pos, aft, gd⟩ :: l) σ T :=
  ⟨d, v, rfl, by simpa using hdN, .inl ⟨hw, fun ρ hρ w _ => by
    have h1 := hρ x (by simp [Op.operands]) _ hc
    have h2 := hρ y (by simp [Op.operands]) _ hx
    simp [execOp, h1, h2, asBool]⟩, h⟩
theorem x_pF {HL : List HE} {d : Nat} {ty : TypeId} {pos : String} {aft : Array Edge} {gd : Option (Nat × Bool)} {x y z : Operand} {v : Value} {l : List Oper} (hw : wantd ops σ ⟨some d, .pick x y z, ty, pos, aft, gd⟩ = some true) (hc : ev σ x = some (.bool false)) (hx : ev σ z = some v) (hdN : Nat.blt d N = true)
    (h : HdL P N w0 W HL ops l ((d, v) :: σ) T) : HdL P N w0 W HL ops (⟨some d, .pick x y z, ty, pos, aft, gd⟩ :: l) σ T :=
  ⟨d, v, rfl, by simpa using hdN, .inl ⟨hw, fun ρ hρ w _ => by
    have h1 := hρ x (by simp [Op.operands]) _ hc
    have h2 := hρ z (by simp [Op.operands]) _ hx
    simp [execOp, h1, h2, asBool]⟩, h⟩
theorem c_if {x : Operand} {y z : Code} {c : Bool} [hb : BoolP c p] (hc : ev σ x = some (.bool c)) (ht : p → J N ds w0 W σ H (y.wpIn F n P Q)) (hf : ¬ p → J N ds w0 W σ H (z.wpIn F n P Q)) :
    J N ds w0 W σ H ((Code.cond x y z).wpIn F n P Q) := c_cond hc (fun h => ht (hb.h.1 h)) (fun h => hf (BoolP.no h))
def stB (ops : Array Oper) (mask : List Bool) : Bool := (List.range ops.size).all fun i => match ops[i]? with
  | some o => match o.op with | .store .. => litB ops mask i | .call ⟨.builtin .append, _, _⟩ => litB ops mask i | _ => true
  | none => true
theorem c_dra {id : Nat} {l : List Oper} {mask : List Bool} {r : List Nat} [hF : Wide F] (hm : litMask l.toArray l 0 [] [] = mask) (hr : hvIdx l.toArray mask = r) (hmx : P.follows .mixedOrders = true) (hok : (maskOkX l.toArray mask && stB l.toArray mask) = true)
    (h : HdL P N w0 W H l.toArray (opsAt l.toArray (pvIdx l.toArray mask)) σ (fun τ => J N ds w0 W τ H (wpT F n P w0 W H l.toArray mask Q r.length r))) : J N ds w0 W σ H ((Code.region id l.toArray true).wpIn F n P Q) :=
  c_drx H mask r (Sub.refl _) hr hmx (by simp only [Bool.and_eq_true] at hok; exact hok.1) h
/-- A list without its element number k. -/
class Er (H : List HE) (k : Nat) (HL : outParam (List HE)) : Prop where h : Sub HL H
instance (x : HE) (r : List HE) : Er (x :: r) 0 r := ⟨Sub.skip (Sub.refl _) _⟩
instance (x : HE) (r r' : List HE) (k : Nat) [h : Er r k r'] : Er (x :: r) (k + 1) (x :: r') := ⟨h.h.keep x⟩
/-- The same; a block that is written while others are looked at is left out. -/
theorem c_dre (k : Nat) {HL : List HE} {id : Nat} {l : List Oper} {mask : List Bool} {r : List Nat} [hF : Wide F] [he : Er H k HL] (hm : litMask l.toArray l 0 [] [] = mask) (hr : hvIdx l.toArray mask = r) (hmx : P.follows .mixedOrders = true) (hok : maskOkX l.toArray mask = true)
    (h : HdL P N w0 W HL l.toArray (opsAt l.toArray (pvIdx l.toArray mask)) σ (fun τ => J N ds w0 W τ H (wpT F n P w0 W HL l.toArray mask Q r.length r))) : J N ds w0 W σ H ((Code.region id l.toArray true).wpIn F n P Q) :=
  c_drx HL mask r he.h hr hmx hok h
/-- A pick between a truth value and another one. -/
theorem lpk {d : Nat} {ty : TypeId} {pos : String} {aft : Array Edge} {gd : Option (Nat × Bool)} [Wide F] {x y z : Operand} {c : Bool} {u v : Value} (hw : wantd ops σ ⟨some d, .pick x y z, ty, pos, aft, gd⟩ = some true) (hc : ev σ x = some (.bool c)) (hx : ev σ y = some u) (hy : ev σ z = some v) (hdN : Nat.blt d N = true)
    (h : J N ds w0 W ((d, bif c then u else v) :: σ) H (wpListIn F n P ops Q rest)) : J N ds w0 W σ H (wpListIn F n P ops Q (⟨some d, .pick x y z, ty, pos, aft, gd⟩ :: rest)) := by
  cases c with
  | true => exact lpT hw hc hx hdN h
  | false => exact lpF hw hc hy hdN h
variable {dst : Nat} {f : FuncId} {args : Array Operand} {ts : Array TypeId} {us : List Value} {v : Value} {c : Prop} {ty : TypeId} {pos : String} {aft : Array Edge} {gd : Option (Nat × Bool)}
theorem lcv [Wide F] [WF F] [Cl P f]
    (hw : wantd ops σ ⟨some dst, .call ⟨.value (.func f), args, ts⟩, ty, pos, aft, gd⟩ = some true) (hv : vals σ args.toList = some us) [hc : CV P f us v c] (hdN : Nat.blt dst N = true) (hcc : c) (h : J N ds w0 W ((dst, v) :: σ) H (wpListIn F n P ops Q rest)) :
    J N ds w0 W σ H (wpListIn F n P ops Q (⟨some dst, .call ⟨.value (.func f), args, ts⟩, ty, pos, aft, gd⟩ :: rest)) := lfv hw hv hdN (fun w _ => hc.h hcc w) h
theorem hcv [Wide F] [WF F] [Cl P f]
    (hw : wantd ops σ ⟨some dst, .call ⟨.value (.func f), args, ts⟩, ty, pos, aft, gd⟩ = some true) (hv : vals σ args.toList = some us) [hc : CV P f us v c] (hdN : Nat.blt dst N = true) (hcc : c) (h : HdJ F n P N ds w0 W H ops rest ((dst, v) :: σ) T) :
    HdJ F n P N ds w0 W H ops (⟨some dst, .call ⟨.value (.func f), args, ts⟩, ty, pos, aft, gd⟩ :: rest) σ T := hfv hw hv hdN (fun w _ => hc.h hcc w) h
theorem c_rounds (m : Nat) {c : Code} (h : J N ds w0 W σ H (Code.roundsIn F n P c Q m)) : J N ds w0 W σ H ((Code.loop c).wpIn F n P Q) := fun a w ha hw => wpIn_loop_rounds m (h a w ha hw)
instance {c : Code} (m : Nat) : CC (Code.roundsIn F n P c Q (m + 1)) (c.wpIn F n P (Exit.then (Code.roundsIn F n P c Q m) Q)) := ⟨fun h => h⟩
end
section
variable {P : Program} {w0 : World} {W : Nat → Prop} {H : List HE}
instance (priority := 2000) (t u : TypeId) (x y : Operand) (a : Bool) [Und P t .bool] : MS P w0 W H (.binOp .eql t x y u) [.bool a, .bool a] (.bool true) True := ⟨fun _ _ _ _ _ _ _ _ _ _ _ _ _ _ h1 h2 h3 => let ⟨p, q⟩ := vals2 h1; r_eqB p q h2 (by simpa using h3)⟩
instance (priority := 2000) (t u : TypeId) (x y : Operand) (a : Bool) [Und P t .bool] : MS P w0 W H (.binOp .neq t x y u) [.bool a, .bool a] (.bool false) True := ⟨fun _ _ _ _ _ _ _ _ _ _ _ _ _ _ h1 h2 h3 => let ⟨p, q⟩ := vals2 h1; r_neB p q h2 (by simpa using h3)⟩
instance (priority := 10) (c x y : Operand) (u v : Value) : LV P w0 W H (.pick c x y) [.bool true, u, v] u True := ⟨by
  rintro _ ρ ⟨dst, op', ty, pos, aft, gd⟩ rfl h w _
  have h1 : ρ c = .bool true ∧ ρ x = u ∧ ρ y = v := by simpa [Op.operands] using h
  simp [execOp, h1.1, h1.2.1, asBool]⟩
instance (priority := 10) (c x y : Operand) (u v : Value) : LV P w0 W H (.pick c x y) [.bool false, u, v] v True := ⟨by
  rintro _ ρ ⟨dst, op', ty, pos, aft, gd⟩ rfl h w _
  have h1 : ρ c = .bool false ∧ ρ x = u ∧ ρ y = v := by simpa [Op.operands] using h
  simp [execOp, h1.1, h1.2.2, asBool]⟩
instance (priority := 60) (t u : TypeId) (x y : Operand) (k : IntKind) (a b : Int) : LV P w0 W H (.binOp .quo t x y u) [.int k a, .int k b] (.int k (a / b)) (0 ≤ a ∧ 0 < b ∧ InR k a) := ⟨by
  rintro ⟨h0, hb, hc⟩ ρ ⟨dst, op', ty, pos, aft, gd⟩ rfl h w _
  obtain ⟨h1, h2⟩ := map2 h
  have e : k.wrap (a.tdiv b) = a / b := by
    rw [Int.tdiv_eq_ediv_of_nonneg h0, wrap_in]
    have h3 : 0 ≤ a / b := Int.ediv_nonneg h0 (by omega)
    have h4 : a / b ≤ a := Int.ediv_le_self _ h0
    cases k <;> simp only [InR] at hc ⊢ <;> omega
  simp [execOp, h1, h2, eqGuard, binOp, Op.intDiv, show b ≠ 0 by omega, e]⟩
instance (priority := 60) (t u : TypeId) (x y : Operand) (k : IntKind) (a b : Int) : LV P w0 W H (.binOp .rem t x y u) [.int k a, .int k b] (.int k (a % b)) (0 ≤ a ∧ 0 < b) := ⟨by
  rintro ⟨h0, hb⟩ ρ ⟨dst, op', ty, pos, aft, gd⟩ rfl h w _
  obtain ⟨h1, h2⟩ := map2 h
  simp [execOp, h1, h2, eqGuard, binOp, Op.intDiv, show b ≠ 0 by omega, Int.tmod_eq_emod_of_nonneg h0]⟩
instance (t u : TypeId) (x y : Operand) (k : IntKind) (a b : Int) : LV P w0 W H (.binOp .and t x y u) [.int k a, .int k b] (.int k (bits .and k a b)) True := ⟨fun _ ρ o ho h w _ => pv_bin rfl ρ o ho h w⟩
instance (t u : TypeId) (x y : Operand) (k : IntKind) (a b : Int) : LV P w0 W H (.binOp .or t x y u) [.int k a, .int k b] (.int k (bits .or k a b)) True := ⟨fun _ ρ o ho h w _ => pv_bin rfl ρ o ho h w⟩
instance (t u : TypeId) (x y : Operand) (k : IntKind) (a b : Int) : LV P w0 W H (.binOp .xor t x y u) [.int k a, .int k b] (.int k (bits .xor k a b)) True := ⟨fun _ ρ o ho h w _ => pv_bin rfl ρ o ho h w⟩
instance (priority := 40) (t u : TypeId) (x y : Operand) (k k' : IntKind) (a : Int) (b : Nat) : LV P w0 W H (.binOp .shr t x y u) [.int k a, .int k' (no_index (OfNat.ofNat b : Int))] (.int k (a / 2 ^ (OfNat.ofNat b : Nat))) (LeB k (OfNat.ofNat b : Nat)) := ⟨by
  rintro hc ρ ⟨dst, op', ty, pos, aft, gd⟩ rfl h w _
  obtain ⟨h1, h2⟩ := map2 h
  have hn := lit_nonneg b
  have e : a.fdiv (2 ^ min (OfNat.ofNat b : Int).toNat k.bits) = a / 2 ^ (OfNat.ofNat b : Nat) := by rw [lit_toNat, Nat.min_eq_left (leB hc), Int.fdiv_eq_ediv_of_nonneg _ (Int.le_of_lt (Int.pow_pos (by decide)))]
  simp only [execOp, h1, h2, eqGuard, binOp, Op.shift, if_neg (show ¬ (OfNat.ofNat b : Int) < 0 by omega), e]
  rfl⟩
instance (t u : TypeId) (x y : Operand) (p q : Bool) [hu : Und P t .bool] : LV P w0 W H (.binOp .eql t x y u) [.bool p, .bool q] (.bool (p == q)) True := ⟨by
  rintro _ ρ ⟨dst, op', ty, pos, aft, gd⟩ rfl h w _
  obtain ⟨h1, h2⟩ := map2 h
  have := run_eqlB w p q hu.h
  simp only [execOp, h1, h2, Sem.run_bind, run_guardB, Result.andThen_ok, this, Sem.run_pure]⟩
instance (t u : TypeId) (x y : Operand) (p q : Bool) [hu : Und P t .bool] : LV P w0 W H (.binOp .neq t x y u) [.bool p, .bool q] (.bool (!(p == q))) True := ⟨by
  rintro _ ρ ⟨dst, op', ty, pos, aft, gd⟩ rfl h w _
  obtain ⟨h1, h2⟩ := map2 h
  have := run_neqB w p q hu.h
  simp only [execOp, h1, h2, Sem.run_bind, run_guardB, Result.andThen_ok, this, Sem.run_pure]⟩
instance (t : TypeId) (x : Operand) (k : IntKind) (a : Int) : LV P w0 W H (.unOp .neg t x) [.int k a] (.int k (-a)) (InR k (-a)) := ⟨by
  rintro hc ρ ⟨dst, op', ty, pos, aft, gd⟩ rfl h w _
  have e : k.wrap (0 - a) = -a := by rw [Int.zero_sub, wrap_in hc]
  have e' : k.wrap (-a) = -a := wrap_in hc
  simp [execOp, map1 h, Op.unary, Op.intArith, e']⟩
instance (x y : Operand) (ts : Array TypeId) (k : IntKind) (p q : Int) : LV P w0 W H (.call ⟨.builtin .min, #[x, y], ts⟩) [.int k p, .int k q] (.int k (min p q)) True := ⟨by
  rintro _ ρ ⟨dst, op', ty, pos, aft, gd⟩ rfl h w _
  have h1 : ρ x = .int k p ∧ ρ y = .int k q := by simpa [Op.operands, Call.operands] using h
  have e : (if q < p then q else p) = min p q := by omega
  simp [execOp, h1.1, h1.2, resolve, invoke, builtin, Builtin.min_, Builtin.min2, e]⟩
instance (x y : Operand) (ts : Array TypeId) (k : IntKind) (p q : Int) : LV P w0 W H (.call ⟨.builtin .max, #[x, y], ts⟩) [.int k p, .int k q] (.int k (max p q)) True := ⟨by
  rintro _ ρ ⟨dst, op', ty, pos, aft, gd⟩ rfl h w _
  have h1 : ρ x = .int k p ∧ ρ y = .int k q := by simpa [Op.operands, Call.operands] using h
  have e : (if p < q then q else p) = max p q := by omega
  simp [execOp, h1.1, h1.2, resolve, invoke, builtin, Builtin.max_, Builtin.max2, e]⟩
theorem lv_index {t e m bs i : Nat} {z : Value} {dd : TypeDesc} {x y : Operand} {vs : List Value} {v : Value} {k : IntKind} {a : Int} [hu : Und P t (.array m e)] [hI : Inf P e 1 bs z] [he : Und P e dd] (hd : aggB dd = false) (ha : a = (i : Int)) (hm : i < m) (hg : vs[i]? = some v) :
    ∀ (ρ : Operand → Value) (o : Oper), o.op = .index t x y → (Op.index t x y).operands.toList.map ρ = [.agg vs.toArray, .int k a] → ∀ w : World, (execOp ρ o).run P w = .ok (.value v) w := by
  rintro ρ ⟨dst, op', ty, pos, aft, gd⟩ rfl h w
  obtain ⟨hx, hy⟩ := map2 h
  have h1 := hu.h
  obtain ⟨ii, h2, -, h3, -⟩ := hI.h
  have h4 := he.h
  have hagg : (isAgg e).run P w = .ok false w := by
    unfold isAgg
    rw [Sem.run_bind, run_underlying h4 w]
    cases dd <;> simp [aggB] at hd <;> rfl
  subst ha
  simp [execOp, hx, hy, Instr.index, run_underlying h1, asIntOf, sizeOf, typeInfo, h2, h3, hm, part, hagg, hg]
instance (t e m bs i : Nat) (z : Value) (dd : TypeDesc) (x y : Operand) (vs : List Value) (v : Value) (k : IntKind) (a : Int) [Und P t (.array m e)] [Inf P e 1 bs z] [Und P e dd] [hd : NoAgg dd] [ha : LitI a i] [hg : Get vs i v] : PV P (.index t x y) [.agg vs.toArray, .int k a] v (i < m) :=
  ⟨fun hi => lv_index (z := z) (bs := bs) (e := e) hd.h ha.h hi hg.h⟩
instance (t e m bs i : Nat) (z : Value) (dd : TypeDesc) (x y : Operand) (vs : List Value) (v : Value) (k : IntKind) (a : Int) [Und P t (.array m e)] [Inf P e 1 bs z] [Und P e dd] [hd : NoAgg dd] [ha : LitI a i] [hg : Get vs i v] : MS P w0 W H (.index t x y) [.agg vs.toArray, .int k a] v (i < m) :=
  ⟨fun hi _ _ _ _ _ _ _ _ _ _ _ _ _ h1 h2 h3 => o_val (by simp) rfl h2 (fun a w ham _ => lv_index (t := t) (x := x) (y := y) (z := z) (bs := bs) (e := e) (k := k) hd.h ha.h hi hg.h a.eval _ rfl (by obtain ⟨p, q⟩ := vals2 h1; simp [Op.operands, ham.eval p, ham.eval q]) w) h3⟩
end
section
variable {F : Fence} {n : Nat} {P : Program} {N : Nat} {ds : List Deferred} {w0 : World} {W : Nat → Prop} {σ : List (Nat × Value)} {H : List HE} {Q : Exit → Act → World → Prop}
variable {ops : Array Oper} {rest : List Oper} {d : Nat} {ty : TypeId} {pos : String} {aft : Array Edge} {gd : Option (Nat × Bool)}
/-- An array, part by part. -/
theorem lba [Wide F] {t e m sz bs szt bst : Nat} {z ze : Value} {parts : Array (Nat × Operand)} {us : List (Nat × Value)} {cs : List Value} [hu : Und P t (.array m e)] [hI : Inf P t szt bst z] [he : Inf P e sz bs ze] (hw : wantd ops σ ⟨some d, .build t parts, ty, pos, aft, gd⟩ = some true) (hv : evs σ parts.toList = some us)
    [hcs : Flat us cs] (hf : Instr.fill (fun i => some (i * sz, sz)) z.cells us = some (us.flatMap (fun p => p.2.cells.toList)).toArray) (hdN : Nat.blt d N = true)
    (h : J N ds w0 W ((d, .agg cs.toArray) :: σ) H (wpListIn F n P ops Q rest)) : J N ds w0 W σ H (wpListIn F n P ops Q (⟨some d, .build t parts, ty, pos, aft, gd⟩ :: rest)) := by
  refine l_run hw (o_val (by simp) rfl hdN (fun a w ha _ => ?_) h)
  obtain ⟨i, h3, h4, -⟩ := hI.h
  obtain ⟨j, h5, -, h6, -⟩ := he.h
  have e1 : (List.map (fun x : Nat × Operand => match x with | (i, x) => (i, a.eval x)) parts.toList) = us := evs_map ha hv
  have hb : (Instr.build t (parts.map fun (i, x) => (i, a.eval x))).run P w = .ok (.agg cs.toArray) w := by
    unfold Instr.build
    have hz : (zeroValue t).run P w = .ok z w := by simp [zeroValue, typeInfo, h3, h4]
    have hs : (sizeOf e).run P w = .ok sz w := by simp [sizeOf, typeInfo, h5, h6]
    simp only [Sem.run_bind, hz, Result.andThen_ok, run_underlying hu.h, hs, Array.toList_map, e1, hf, hcs.h, Sem.run_pure]
  simp only [execOp, Sem.run_bind, hb, Result.andThen_ok, Sem.run_pure]
end
/-- Results, in slots or in memory. -/
class LdV (P : Program) (w0 : World) (W : Nat → Prop) (H : List HE) (ty b q : Nat) (v : outParam Value) : Prop where h : ∀ w, St w0 W H w → (loadVar ty ⟨b, q, none⟩).run P w = .ok v w
instance (priority := 100) (P : Program) (w0 : World) (W : Nat → Prop) (H : List HE) (t tb b q : Nat) (dd : TypeDesc) (v : Value) (cs : List Value) (k : HE → List HE) [Und P t dd] [hd : NoAgg dd] [h : At b H tb cs k] [hg : Get cs q v] : LdV P w0 W H t b q v :=
  ⟨fun w hw => let ⟨_, h4, _⟩ := h.h; run_loadPlain (Und.h (P := P) (t := t)) hd.h (Cell.blk h4 hg.h w hw)⟩
instance (priority := 100) (P : Program) (w0 : World) (W : Nat → Prop) (H : List HE) (t tb b q sz bs : Nat) (z : Value) (dd : TypeDesc) (o cs : List Value) (k : HE → List HE) [Und P t dd] [hd : YesAgg dd] [Inf P t sz bs z] [h : At b H tb cs k] [hg : Cut cs q sz o] : LdV P w0 W H t b q (.agg o.toArray) :=
  ⟨fun w hw => by
    obtain ⟨_, h4, _⟩ := h.h
    have hr : dd.isRow = true := by have := hd.h; cases dd <;> simp_all [aggB]
    exact run_loadVar_mid w b q t o dd (Range.cut h4 hg.h.1 w hw) (Und.h (P := P) (t := t)) hr (by rw [hg.h.2]; exact Inf.size)⟩
def ResL (P : Program) (w0 : World) (W : Nat → Prop) (H : List HE) (σ : List (Nat × Value)) : List ResultVar → List Value → Prop
  | [], vs => vs = []
  | .tmp t :: r, vs => ∃ v us, vs = v :: us ∧ look σ t = some v ∧ ResL P w0 W H σ r us
  | .cell t ty :: r, vs => ∃ v us b q, vs = v :: us ∧ look σ t = some (.pointer (some ⟨b, q, none⟩)) ∧ (∀ w, St w0 W H w → (loadVar ty ⟨b, q, none⟩).run P w = .ok v w) ∧ ResL P w0 W H σ r us
def retV : List Value → Value
  | [v] => v
  | vs => .tuple vs.toArray
section
variable {P : Program} {N : Nat} {w0 : World} {W : Nat → Prop} {σ : List (Nat × Value)} {H : List HE} {n : Nat}
theorem res_nil : ResL P w0 W H σ [] [] := rfl
theorem res_tmp {t : Nat} {v : Value} {r : List ResultVar} {us : List Value} (hv : look σ t = some v) (h : ResL P w0 W H σ r us) : ResL P w0 W H σ (.tmp t :: r) (v :: us) := ⟨v, us, rfl, hv, h⟩
theorem res_cell {t ty b q : Nat} {v : Value} {r : List ResultVar} {us : List Value} (hv : look σ t = some (.pointer (some ⟨b, q, none⟩))) [hl : LdV P w0 W H ty b q v] (h : ResL P w0 W H σ r us) : ResL P w0 W H σ (.cell t ty :: r) (v :: us) := ⟨v, us, b, q, rfl, hv, hl.h, h⟩
def resOp (tmps : Array Value) : ResultVar → Sem Value
  | .tmp t => pure (tmps.getD t undef)
  | .cell b t => do loadVar t (← asAddr (tmps.getD b undef))
theorem ResL.run {ds : List Deferred} {a : Act} {w : World} (ha : Tm N ds σ a) (hw : St w0 W H w) : ∀ {rs : List ResultVar} {vs : List Value}, ResL P w0 W H σ rs vs → (rs.mapM (resOp a.tmps)).run P w = Result.ok vs w
  | [], vs, h => by rw [show vs = [] from h]; rfl
  | .tmp t :: r, _, ⟨v, us, rfl, h1, h2⟩ => by
    have := ResL.run ha hw h2
    rw [List.mapM_cons, Sem.run_bind]
    simp only [resOp, Sem.run_pure, Result.andThen_ok, Sem.run_bind, this, getD_of ha h1]
  | .cell t ty :: r, _, ⟨v, us, b, q, rfl, h1, h3, h2⟩ => by
    have := ResL.run ha hw h2
    rw [List.mapM_cons, Sem.run_bind]
    simp only [resOp, Sem.run_bind, getD_of ha h1, asAddr, Sem.run_pure, Result.andThen_ok, h3 w hw, this]
theorem ResL.all {ds : List Deferred} {a : Act} {w : World} {fn : Func} {rs : List ResultVar} {vs : List Value} (ha : Tm N ds σ a) (hw : St w0 W H w) (hres : fn.results = rs.toArray) (h : ResL P w0 W H σ rs vs) : (results fn a.tmps).run P w = .ok (retV vs) w := by
  have h1 := h.run ha hw
  have e : results fn a.tmps = (fn.results.mapM (resOp a.tmps) >>= fun vs => pure (if h : vs.size = 1 then vs[0] else .tuple vs)) := by
    unfold results
    congr 1
  rw [e, hres, Sem.run_bind, List.mapM_toArray]
  have h2 : (List.toArray <$> rs.mapM (resOp a.tmps)).run P w = .ok vs.toArray w := by
    rw [map_eq_pure_bind, Sem.run_bind, h1]; rfl
  rw [h2]
  match vs with
  | [] => rfl
  | [v] => rfl
  | u :: v :: r => simp [retV]
theorem j_outG {fn : Func} {rs : List ResultVar} {vs : List Value} {S' : List HE} {Rl : Value → List HE → Prop} [hres : FRes fn rs] (hv : ResL P w0 W H σ rs vs) (hs : Sub S' H) (hR : Rl (retV vs) S') : J N [] w0 W σ H (bodyPost P fn (fun e w' => ∃ v S', e = .returned v ∧ Rl v S' ∧ St w0 W S' w') .ret) :=
  fun a w ha hw => ⟨ha.defers, _, hv.all ha hw hres.h, _, S', rfl, hR, hw.sub hs⟩
theorem j_outMG {fn : Func} {rs : List ResultVar} {vs : List Value} {Ds : List Nat} {S' S : List HE} {Rl : Value → List HE → Prop} [hres : FRes fn rs] (hs : Sub (S' ++ marksH Ds) H) (hv : ResL P w0 (blocks S) S' σ rs vs) (hR : Rl (retV vs) S') : J N (marks Ds) w0 (blocks S) σ H (bodyPostM Fence.wide n P fn (Post S w0 Rl) .ret) := fun a w ha hw => by
  have := leaves_marks (n := n) (P := P) (fn := fn) (Rr := Post S w0 Rl) (tmps := a.tmps) (fun w' hw' => ⟨_, hv.all ha hw' hres.h, _, S', rfl, hR, hw'⟩) Ds w (hw.sub hs)
  show LeavesInM _ _ _ _ _ _ a.defers _ _
  rw [ha.defers]; exact this
def ResK (P : Program) (w0 : World) (W : Nat → Prop) (H : List HE) (σ : List (Nat × Value)) (rs : List ResultVar) (K : List Value → Prop) : Prop := ∃ vs, ResL P w0 W H σ rs vs ∧ K vs
theorem k_nil {K : List Value → Prop} (h : K []) : ResK P w0 W H σ [] K := ⟨[], rfl, h⟩
theorem k_tmp {K : List Value → Prop} {t : Nat} {v : Value} {r : List ResultVar} (hv : look σ t = some v) (h : ResK P w0 W H σ r fun us => K (v :: us)) : ResK P w0 W H σ (.tmp t :: r) K := let ⟨us, h1, h2⟩ := h; ⟨v :: us, res_tmp hv h1, h2⟩
theorem k_cell {K : List Value → Prop} {t ty b q : Nat} {v : Value} {r : List ResultVar} (hv : look σ t = some (.pointer (some ⟨b, q, none⟩))) [hl : LdV P w0 W H ty b q v] (h : ResK P w0 W H σ r fun us => K (v :: us)) : ResK P w0 W H σ (.cell t ty :: r) K := let ⟨us, h1, h2⟩ := h; ⟨v :: us, res_cell hv h1, h2⟩
theorem j_outK {fn : Func} {rs : List ResultVar} {S' : List HE} {Rl : Value → List HE → Prop} [hres : FRes fn rs] (hs : Sub S' H) (h : ResK P w0 W H σ rs fun vs => Rl (retV vs) S') : J N [] w0 W σ H (bodyPost P fn (fun e w' => ∃ v S', e = .returned v ∧ Rl v S' ∧ St w0 W S' w') .ret) :=
  let ⟨_, h1, h2⟩ := h
  j_outG h1 hs h2
theorem j_outMS {fn : Func} {rs : List ResultVar} {Ds : List Nat} {S' S S2 : List HE} {Rl : Value → List HE → Prop} [hres : FRes fn rs] (hs : Sub (S2 ++ marksH Ds) H) (hs2 : Sub S' S2) (h : ResK P w0 (blocks S) S2 σ rs fun vs => Rl (retV vs) S') : J N (marks Ds) w0 (blocks S) σ H (bodyPostM Fence.wide n P fn (Post S w0 Rl) .ret) := fun a w ha hw => by
  obtain ⟨vs, h1, h2⟩ := h
  have := leaves_marks (n := n) (P := P) (fn := fn) (Rr := Post S w0 Rl) (tmps := a.tmps) (fun w' hw' => ⟨_, h1.all ha hw' hres.h, _, S', rfl, h2, hw'.sub hs2⟩) Ds w (hw.sub hs)
  show LeavesInM _ _ _ _ _ _ a.defers _ _
  rw [ha.defers]; exact this
theorem j_outMK {fn : Func} {rs : List ResultVar} {Ds : List Nat} {S' S : List HE} {Rl : Value → List HE → Prop} [hres : FRes fn rs] (hs : Sub (S' ++ marksH Ds) H) (h : ResK P w0 (blocks S) S' σ rs fun vs => Rl (retV vs) S') : J N (marks Ds) w0 (blocks S) σ H (bodyPostM Fence.wide n P fn (Post S w0 Rl) .ret) :=
  let ⟨_, h1, h2⟩ := h
  j_outMG hs h1 h2
end
section
variable {F : Fence} {n : Nat} {P : Program} {N : Nat} {ds : List Deferred} {w0 : World} {W : Nat → Prop} {σ : List (Nat × Value)} {H : List HE} {T : List (Nat × Value) → Prop}
variable {ops : Array Oper} {rest : List Oper} {d : Nat} {ty : TypeId} {pos : String} {aft : Array Edge} {gd : Option (Nat × Bool)}
theorem hbd [Wide F] {t sz bs : Nat} {z : Value} {pl : List (Nat × Nat)} {parts : Array (Nat × Operand)} {us : List (Nat × Value)} {zs cs : List Value} [Pl P t pl] [Inf P t sz bs z] (hw : wantd ops σ ⟨some d, .build t parts, ty, pos, aft, gd⟩ = some true) (hv : evs σ parts.toList = some us)
    [hz : ZC z zs] [hl : Laid pl zs us cs] (hf : Instr.fill (pl.toArray[·]?) z.cells us = some (fillL pl z.cells.toList us).toArray) (hdN : Nat.blt d N = true)
    (h : HdJ F n P N ds w0 W H ops rest ((d, .agg cs.toArray) :: σ) T) : HdJ F n P N ds w0 W H ops (⟨some d, .build t parts, ty, pos, aft, gd⟩ :: rest) σ T :=
  h_run rfl hdN hw (fun _ _ hk => r_build hv (by rw [hz.h]; exact hl.h) hf hdN hk) h
end
/-- A loop's record on the list. -/
class AtLoop (l : Nat) (H : List HE) (N : outParam Nat) (σ : outParam (List (Nat × Value))) (ps : outParam (Array Tmp)) (assign body : outParam Code) (st : outParam LoopState) (pend : outParam (Option Code)) (R : outParam (List HE)) : Prop where h : Has H (.loop l N σ ps assign body st pend) R
instance (priority := 100) (l N : Nat) (σ : List (Nat × Value)) (ps : Array Tmp) (assign body : Code) (st : LoopState) (pend : Option Code) (r : List HE) : AtLoop l (.loop l N σ ps assign body st pend :: r) N σ ps assign body st pend r := ⟨.here _ _⟩
instance (priority := 10) (l N : Nat) (σ : List (Nat × Value)) (ps : Array Tmp) (assign body : Code) (st : LoopState) (pend : Option Code) (y : HE) (r R : List HE) [h : AtLoop l r N σ ps assign body st pend R] : AtLoop l (y :: r) N σ ps assign body st pend (y :: R) := ⟨.there y h.h⟩
theorem Sub.of_has {H R : List HE} {x : HE} (h : Has H x R) : Sub (x :: R) H := .cons h (Sub.refl R)
section
variable {F : Fence} {n : Nat} {P : Program} {N : Nat} {ds : List Deferred} {w0 : World} {W : Nat → Prop} {σ : List (Nat × Value)} {H R : List HE} {Q : Exit → Act → World → Prop}
variable {l Nr : Nat} {σr : List (Nat × Value)} {ps : Array Tmp} {assign body : Code} {st : LoopState} {pend : Option Code} {S' S : List HE} {Rl : Value → List HE → Prop}
theorem c_beg {c : Code} [hl : AtLoop l H Nr σr ps assign body .ready pend R] (h : J N ds w0 W σ (.loop l Nr σr ps assign body .busy pend :: R) (c.wpIn F n P Q)) :
    J N ds w0 W σ H (fun a₁ w₁ => ∃ w₂, (Instr.beginRound l).run P w₁ = .ok () w₂ ∧ c.wpIn F n P Q a₁ w₂) := j_perm (Sub.of_has hl.h) (c_begin h)
theorem c_rnH [hl : AtLoop l H Nr σr ps assign body st pend R] (hs : Sub S' (.loop l Nr σr ps assign body .ready none :: R)) (hR : Rl (.bool true) S') : J N ds w0 (blocks S) σ H (roundPost P l (Post S w0 Rl) .normal) := j_perm (Sub.of_has hl.h) (c_rnormal hs hR)
theorem c_rrH [hl : AtLoop l H Nr σr ps assign body st pend R] (hs : Sub S' (.loop l Nr σr ps assign body .done (some .ret) :: R)) (hR : Rl (.bool false) S') : J N ds w0 (blocks S) σ H (roundPost P l (Post S w0 Rl) .ret) := j_perm (Sub.of_has hl.h) (c_rret hs hR)
theorem c_reH {id : Nat} [hl : AtLoop l H Nr σr ps assign body st pend R] (hs : Sub S' (.loop l Nr σr ps assign body .done (some (.exit id)) :: R)) (hR : Rl (.bool false) S') : J N ds w0 (blocks S) σ H (roundPost P l (Post S w0 Rl) (.exit id)) := j_perm (Sub.of_has hl.h) (c_rexit hs hR)
end
instance (priority := 3000) {P : Program} {w0 : World} {W : Nat → Prop} {H : List HE} (t u : TypeId) (x y : Operand) (b : Bool) [Und P t .bool] : LV P w0 W H (.binOp .neq t x y u) [.bool false, .bool b] (.bool b) True := ⟨fun c => by
  have := LV.h (P := P) (w0 := w0) (W := W) (H := H) (op := .binOp .neq t x y u) (vs := [.bool false, .bool b]) (v := .bool (!(false == b))) c
  cases b <;> exact this⟩
instance (priority := 3000) {P : Program} {w0 : World} {W : Nat → Prop} {H : List HE} (t u : TypeId) (x y : Operand) (b : Bool) [Und P t .bool] : LV P w0 W H (.binOp .neq t x y u) [.bool true, .bool b] (.bool (!b)) True := ⟨fun c => by
  have := LV.h (P := P) (w0 := w0) (W := W) (H := H) (op := .binOp .neq t x y u) (vs := [.bool true, .bool b]) (v := .bool (!(true == b))) c
  cases b <;> exact this⟩
instance (priority := 3000) {P : Program} {w0 : World} {W : Nat → Prop} {H : List HE} (t u : TypeId) (x y : Operand) (a b : Int) : LV P w0 W H (.binOp .sub t x y u) [.int .u32 a, .int .u32 b] (.int .u32 ((a - b) % 4294967296)) True := ⟨fun _ ρ o ho h w _ => pv_bin (by simp [binv, IntKind.wrap, IntKind.bits, IntKind.signed]) ρ o ho h w⟩
instance (priority := 5) {P : Program} {w0 : World} {W : Nat → Prop} {H : List HE} (c x y : Operand) (b v : Bool) : LV P w0 W H (.pick c x y) [.bool b, .bool true, .bool v] (.bool (b || v)) True := ⟨by
  rintro _ ρ ⟨dst, op', ty, pos, aft, gd⟩ rfl h w _
  have h1 : ρ c = .bool b ∧ ρ x = .bool true ∧ ρ y = .bool v := by simpa [Op.operands] using h
  cases b <;> simp [execOp, h1.1, h1.2.1, h1.2.2, asBool]⟩
end Go.Proofs.Ytemmnpgebpffbaa
/- Packages crc and bits (Put, Get) and their references: sums, and numbers as bytes. -/
namespace Go.Proofs.Ytemmnpgebpffbaa
open Go.RowKit
section
variable {P : Program} {w0 : World} {W : Nat → Prop} {H : List HE}
instance (t : TypeId) (x : Operand) (a : Int) : MS P w0 W H (.unOp .xor t x) [.int .u32 a] (.int .u32 (bits .xor .u32 4294967295 a)) True := ⟨fun _ _ _ _ _ _ _ _ _ _ _ _ _ _ h1 h2 h3 => o_val (by simp) rfl h2 (fun a w ha _ => by simp only [execOp, ha.eval (opnds1 rfl h1), Op.unary, Op.intBits]; rfl) h3⟩
instance (k : IntKind) (a : List Int) (v1 v2 v3 v4 : Int) : AppI (ints k a) [.int k v1, .int k v2, .int k v3, .int k v4] (ints k (a ++ [v1, v2, v3, v4])) := ⟨by simp [ints]⟩
end
theorem getD_u8 {ys : List Int} (h : U8s ys) (i : Nat) : 0 ≤ ys.getD i 0 ∧ ys.getD i 0 < 256 := by
  rcases Nat.lt_or_ge i ys.length with h1 | h1
  · exact h _ (by rw [List.getD_eq_getElem?_getD, List.getElem?_eq_getElem h1]; exact List.getElem_mem ..)
  · rw [List.getD_eq_getElem?_getD, List.getElem?_eq_none h1]; simp
theorem step_eq {r : Nat} (hr : r < 4294967296) : bits .xor .u32 ((r : Int) / 2 ^ 1) (bits .and .u32 3988292384 (IntKind.u32.wrap (0 - bits .and .u32 (r : Int) 1))) = (crcB r : Nat) := by
  have h1 : bits .and .u32 (r : Int) 1 = ((r % 2 : Nat) : Int) := by
    have := u32_and_nat r 1 hr (by omega)
    rw [nat_mask1] at this
    exact this
  have h2 : (r : Int) / 2 ^ 1 = ((r / 2 : Nat) : Int) := by omega
  rw [h1, h2]
  unfold crcB
  rcases Nat.mod_two_eq_zero_or_one r with h | h
  · rw [h, if_neg (by omega)]
    exact u32_xor_nat (r / 2) 0 (by omega) (by omega)
  · rw [h, if_pos rfl]
    exact u32_xor_nat (r / 2) 3988292384 (by omega) (by omega)
attribute [local irreducible] OJ J HdJ Code.wpIn wpListIn Oper.wpIn bodyPost CallsIn Does
set_option maxRecDepth 4000
set_option maxHeartbeats 4000000 in
theorem byteStep_any (r : Nat) (hr : r < 4294967296) (w : World) : Does Try.prog 106 [.int .u32 r] [] w (fun v S' => v = .int .u32 (crcK 8 r : Nat) ∧ S' = []) := by
  refine does_of Try.func106 rfl Try.ntmps106 rfl ⟨by simp, .nil⟩ (fun n => ?_)
  simp only [slots]
  refine z_gox
  refine c_loop (X := Nat) (fun i => i ≤ 8) (fun i => [(0, .int .u32 (crcK i r : Nat)), (4, .int .i64 i)]) (fun _ => []) (fun i => 8 - i) 0 (by simp) ⟨rfl, rfl, trivial⟩ (.nil _) ?_
  intro i hi
  have hk := crcK_lt hr i
  have hs := step_eq hk
  refine z_tas
  · exact c_round (i + 1) (by show i + 1 ≤ 8; omega) (by show 8 - (i + 1) < 8 - i; omega) ⟨by rw [hs]; rfl, by simp [look], trivial⟩ (.nil _)
  · obtain rfl : i = 8 := by omega
    exact j_out1 rfl rfl (.nil _) ⟨rfl, rfl⟩
set_option maxHeartbeats 8000000 in
theorem sum_any (A : Option Addr) (c : Nat) (ys : List Int) (w : World) (hr : RoA w (blocks []) A ys.length c 1 (ints .u8 ys)) (hu : U8s ys) (hm : ys.length < 1000000000) :
    Does Try.prog 91 [.slice A ys.length c] [] w (fun v S' => v = .int .u32 (sumY ys : Nat) ∧ S' = []) := by
  refine does_of Try.func91 rfl Try.ntmps91 rfl ⟨by simp, .nil⟩ (fun n => ?_)
  simp only [slots]
  refine z_gox
  refine c_loop (X := Nat) (fun i => i ≤ ys.length) (fun i => [(3, .int .u32 (crcTo ys 4294967295 i : Nat)), (6, .slice A ys.length c), (7, .int .i64 ys.length), (8, .int .i64 i)]) (fun _ => []) (fun i => ys.length - i) 0 (by simp) ⟨rfl, rfl, rfl, rfl, trivial⟩ (.nil _) ?_
  intro i hi
  have hk := crcTo_lt hu (r := 4294967295) (by omega) i hi
  have hy := getD_u8 hu i
  rcases Nat.lt_or_ge i ys.length with h | h
  · obtain ⟨bA, oA, rfl, hA⟩ := hr.at_ (by omega : 0 < ys.length)
    have hx : bits .xor .u32 (crcTo ys 4294967295 i : Nat) (ys.getD i 0) = ((crcTo ys 4294967295 i ^^^ (ys.getD i 0).toNat : Nat) : Int) := u32_xor _ _ (by omega) (by omega) (by omega) (by omega)
    have hxl : crcTo ys 4294967295 i ^^^ (ys.getD i 0).toNat < 4294967296 := Nat.xor_lt_two_pow (n := 32) hk (by omega)
    refine z_tas
    rw [hx]
    refine lfv rfl rfl rfl (fun w _ => byteStep_any _ hxl w) ?_
    refine z_tas
    exact c_round (i + 1) (by show i + 1 ≤ _; omega) (by show _ - (i + 1) < _ - i; omega) ⟨rfl, rfl, rfl, by simp [look], trivial⟩ (.nil _)
  · obtain rfl : i = ys.length := by omega
    have hx : bits .xor .u32 4294967295 (crcTo ys 4294967295 ys.length : Nat) = ((4294967295 ^^^ crcTo ys 4294967295 ys.length : Nat) : Int) := u32_xor_nat 4294967295 _ (by omega) hk
    refine z_tas
    exact j_out1 rfl rfl (.nil _) ⟨by rw [hx]; rfl, rfl⟩
theorem sum_anyM (A : Option Addr) (c m : Nat) (ys : List Int) (w : World) (hl : ys.length = m) (hr : RoA w (blocks []) A m c 1 (ints .u8 ys)) (hu : U8s ys) (hm : m < 1000000000) :
    Does Try.prog 91 [.slice A m c] [] w (fun v S' => v = .int .u32 (sumY ys : Nat) ∧ S' = []) := by
  subst hl
  exact sum_any A c ys w hr hu hm
/-- A number put behind bytes. -/
theorem bput_byte (x i : Nat) : (x : Int) / 2 ^ (8 * i) % 256 = ((x / 256 ^ i % 256 : Nat) : Int) := by
  rw [pow256]; push_cast; rfl
set_option maxHeartbeats 16000000 in
theorem bput_any (A : Option Addr) (c : Nat) (ys : List Int) (x size : Nat) (w : World) (hr : RoA w (blocks []) A ys.length c 1 (ints .u8 ys)) (hx : x < 18446744073709551616) (hs : size ≤ 8) (hm : ys.length < 1000000000) :
    Does Try.prog 72 [.slice A ys.length c, .int .u64 x, .int .i64 size] [] w (fun v S' => ∃ A' c', v = .slice A' (ys ++ bytesN x size).length c' ∧ S' = [.row (.slice A' (ys ++ bytesN x size).length c') 5 1 (ys ++ bytesN x size).length (ints .u8 (ys ++ bytesN x size))]) := by
  refine does_of Try.func72 rfl Try.ntmps72 rfl ⟨by simp, .nil⟩ (fun n => ?_)
  simp only [slots]
  have hbl := bytesN_len x size
  refine z_gox
  rename_i A0 c0
  refine c_loop (X := Nat × Option Addr × Nat) (fun q => q.1 ≤ size) (fun q => [(1, .int .u64 x), (7, .slice q.2.1 (ys ++ (bytesN x size).take q.1).length q.2.2), (13, .int .i64 size), (14, .int .i64 q.1)])
    (fun q => [.row (.slice q.2.1 (ys ++ (bytesN x size).take q.1).length q.2.2) 5 1 (ys ++ (bytesN x size).take q.1).length (ints .u8 (ys ++ (bytesN x size).take q.1))]) (fun q => size - q.1) (0, A0, c0) (by simp) ⟨rfl, by simp [look], rfl, rfl, trivial⟩ (by simp only [List.take_zero, List.append_nil]; exact Sub.au) ?_
  rintro ⟨i, A1, c1⟩ hi
  simp only at hi ⊢
  have htl : (ys ++ (bytesN x size).take i).length = ys.length + i := by rw [List.length_append, List.length_take]; omega
  rcases Nat.lt_or_ge i size with h | h
  · have hat := bytesN_take x size i h
    have e8 : (8 * (i : Int)).toNat = 8 * i := by omega
    rw [← bput_byte, ← IntKind.wrap_u8', ← e8] at hat
    refine z_tas
    rename_i A2 c2
    rw [List.append_assoc, ← hat]
    exact c_round (i + 1, A2, c2) (by show i + 1 ≤ _; omega) (by show _ - (i + 1) < _ - i; omega) ⟨rfl, rfl, rfl, by simp [look], trivial⟩ Sub.au
  · obtain rfl : i = size := by omega
    rw [List.take_of_length_le (by omega : (bytesN x i).length ≤ i)]
    refine z_tas
    exact j_out1 rfl rfl Sub.au ⟨_, _, rfl, rfl⟩
theorem or_step {x y i : Nat} (hx : x < 256 ^ i) (hy : y < 256) (hi : i < 8) : bits .or .u64 (x : Int) (IntKind.u64.wrap ((y : Int) * 2 ^ min (8 * (i : Int)).toNat IntKind.u64.bits)) = ((x + 256 ^ i * y : Nat) : Int) := by
  have e1 : min (8 * (i : Int)).toNat IntKind.u64.bits = 8 * i := by simp only [IntKind.bits]; omega
  have e2 : (y : Int) * 2 ^ (8 * i) = ((256 ^ i * y : Nat) : Int) := by rw [pow256]; push_cast; rw [Int.mul_comm]
  have h7 : 256 ^ i ≤ 256 ^ 7 := Nat.pow_le_pow_right (by omega) (by omega)
  have h8 : 256 ^ i * y ≤ 256 ^ i * 255 := Nat.mul_le_mul_left _ (by omega)
  rw [e1, e2, wrap_in (by simp only [InR]; omega), u64_or_nat _ _ (by omega) (by omega), Nat.or_comm, nat_join (8 * i) _ _ (by rw [pow256, Nat.mul_mod_right]) (by rw [← pow256]; exact hx), Nat.add_comm]
theorem leY_succ {ys : List Int} {a i : Nat} (h : a + i < ys.length) : leY ys a (i + 1) = leY ys a i + 256 ^ i * (ys.getD (a + i) 0).toNat := by
  unfold leY seg
  have e : (ys.drop a).take (i + 1) = (ys.drop a).take i ++ [ys.getD (a + i) 0] := by
    rw [List.take_succ_eq_append_getElem (by rw [List.length_drop]; omega), List.getElem_drop, List.getD_eq_getElem?_getD, List.getElem?_eq_getElem h]
    rfl
  rw [e, numY_app, List.length_take, List.length_drop, Nat.min_eq_left (by omega)]
  simp [numY]
set_option maxHeartbeats 16000000 in
theorem bget_any (A : Option Addr) (c : Nat) (ys : List Int) (at_ size : Nat) (w : World) (hr : RoA w (blocks []) A ys.length c 1 (ints .u8 ys)) (hu : U8s ys) (hs : size ≤ 8) (ha : at_ + size ≤ ys.length) (hm : ys.length < 1000000000) :
    Does Try.prog 108 [.slice A ys.length c, .int .i64 at_, .int .i64 size] [] w (fun v S' => v = .tuple #[.int .u64 (leY ys at_ size : Nat), .int .i64 0] ∧ S' = []) := by
  refine does_of Try.func108 rfl Try.ntmps108 rfl ⟨by simp, .nil⟩ (fun n => ?_)
  simp only [slots]
  refine z_tas
  refine c_loop (X := Nat) (fun i => i ≤ size) (fun i => [(0, .slice A ys.length c), (1, .int .i64 at_), (8, .int .u64 (leY ys at_ i : Nat)), (34, .int .i64 size), (35, .int .i64 i)]) (fun _ => []) (fun i => size - i) 0 (by simp) ⟨rfl, rfl, by simp [look, leY, seg, numY], rfl, rfl, trivial⟩ (.nil _) ?_
  intro i hi
  rcases Nat.lt_or_ge i size with h | h
  · obtain ⟨bA, oA, rfl, hA⟩ := hr.at_ (by omega : 0 < ys.length)
    have hlt := leY_lt hu (a := at_) (n := i) (by omega)
    have hy := getD_u8 hu ((at_ : Int) + i).toNat
    have ee : ((at_ : Int) + i).toNat = at_ + i := by omega
    have hor := or_step hlt (y := (ys.getD (at_ + i) 0).toNat) (i := i) (by rw [← ee]; omega) (by omega)
    rw [Int.toNat_of_nonneg (by rw [← ee]; omega), ← leY_succ (by omega), ← ee] at hor
    refine z_tas
    exact c_round (i + 1) (by show i + 1 ≤ _; omega) (by show _ - (i + 1) < _ - i; omega) ⟨rfl, rfl, by simp only [look]; first | (rw [hor]; rfl) | (simp; exact hor), rfl, by simp [look], trivial⟩ (.nil _)
  · obtain rfl : i = size := by omega
    refine z_tas
    exact j_out2 rfl rfl rfl (.nil _) ⟨rfl, rfl⟩
set_option maxHeartbeats 16000000 in
theorem crcput_any (A : Option Addr) (c : Nat) (ys : List Int) (w : World) (hr : RoA w (blocks []) A ys.length c 1 (ints .u8 ys)) (hu : U8s ys) (hm : ys.length < 1000000000) :
    Does Try.prog 71 [.slice A ys.length c] [] w (fun v S' => ∃ A' c', v = .slice A' (crcP ys).length c' ∧ S' = [.row (.slice A' (crcP ys).length c') 5 1 (crcP ys).length (ints .u8 (crcP ys))]) := by
  have hsl := sumY_lt hu
  have hb : ys ++ [IntKind.u8.wrap (sumY ys : Nat), IntKind.u8.wrap ((sumY ys : Nat) / 2 ^ 8), IntKind.u8.wrap ((sumY ys : Nat) / 2 ^ 16), ((sumY ys : Nat) : Int) / 2 ^ 24] = crcP ys := by
    unfold crcP
    congr 1
    simp only [bytesN, List.range_succ, List.range_zero, List.nil_append, List.cons_append, List.map_cons, List.map_nil, IntKind.wrap_u8']
    simp only [List.cons.injEq, and_true]
    omega
  refine does_of Try.func71 rfl Try.ntmps71 rfl ⟨by simp, .nil⟩ (fun n => ?_)
  simp only [slots]
  refine z_gox
  refine lfv rfl rfl rfl (fun w hw => sum_any A c ys w ⟨hr.h.go hw (Split.nil _)⟩ hu hm) ?_
  refine z_gox
  rw [hb]
  exact j_out1 rfl rfl (.cons (.there _ (.here _ _)) (.nil _)) ⟨_, _, rfl, rfl⟩
theorem crc_get {ys : List Int} {m : Nat} (hl : ys.length = m + 4) : crcOk ys ↔ ∀ i, i < 4 → ys.getD (m + i) 0 = ((sumY (ys.take m) / 256 ^ i % 256 : Nat) : Int) := by
  unfold crcOk
  rw [show ys.length - 4 = m by omega]
  constructor
  · rintro ⟨-, h⟩ i hi
    rw [← bytesN_get _ 4 i hi, ← h]
    simp [List.getD_eq_getElem?_getD]
  · intro h
    refine ⟨by omega, List.ext_getElem (by rw [List.length_drop, bytesN_len]; omega) fun i h1 h2 => ?_⟩
    have hi : i < 4 := by rw [bytesN_len] at h2; exact h2
    have := h i hi
    rw [← bytesN_get _ 4 i hi, List.getD_eq_getElem?_getD, List.getD_eq_getElem?_getD, List.getElem?_eq_getElem (by omega), List.getElem?_eq_getElem h2] at this
    rw [List.getElem_drop]
    simpa using this
set_option maxHeartbeats 16000000 in
theorem crcget_any (A : Option Addr) (c n : Nat) (ys : List Int) (w : World) (hl : ys.length = n) (hr : RoA w (blocks []) A n c 1 (ints .u8 ys)) (hu : U8s ys) (hm : n < 1000000000) :
    Does Try.prog 95 [.slice A n c] [] w (fun v S' => (crcOk ys ∧ ∃ A' c', v = .tuple #[.slice A' (ys.take (n - 4)).length c', .bool true] ∧ S' = [.row (.slice A' (ys.take (n - 4)).length c') 5 1 (ys.take (n - 4)).length (ints .u8 (ys.take (n - 4)))]) ∨ (¬ crcOk ys ∧ v = .tuple #[.slice none 0 0, .bool false] ∧ S' = [])) := by
  subst hl
  refine does_of Try.func95 rfl Try.ntmps95 rfl ⟨by simp, .nil⟩ (fun n => ?_)
  simp only [slots]
  rcases Nat.lt_or_ge ys.length 4 with h | h
  · refine z_gob
    exact j_out2 rfl rfl rfl (.nil _) (.inr ⟨fun e => by have := e.1; omega, rfl, rfl⟩)
  have hcl : ys.length ≤ c := by obtain ⟨_, _, e, q1, -⟩ := hr.h; injection e with _ _ e; omega
  obtain ⟨m, hm2⟩ : ∃ m, ys.length = m + 4 := ⟨ys.length - 4, by omega⟩
  have hcg := crc_get hm2
  have hmm : (ys.length : Int) - 4 = (m : Nat) := by omega
  have hm4 : ys.length - 4 = m := by omega
  have htl : (ys.take m).length = m := by rw [List.length_take]; omega
  have hsl := sumY_lt (ys := ys.take m) (fun x hx => hu x (List.mem_of_mem_take hx))
  rw [hm4]
  refine z_tas
  refine j_set 13 _ rfl (v' := .int .i64 (m : Nat)) (by rw [hmm]) ?_
  refine j_set 4 _ rfl (v' := .int .i64 (m : Nat)) (by rw [hmm]) ?_
  refine j_sub 0 m hr (by omega) fun hr0 => ?_
  rw [List.drop_zero, Nat.sub_zero] at hr0
  refine z_tas
  refine lfv rfl rfl rfl (fun w hw => sum_anyM _ _ m (ys.take m) w htl ⟨hr0.h.go hw (Split.nil _)⟩ (fun x hx => hu x (List.mem_of_mem_take hx)) (by omega)) ?_
  refine z_tas
  refine c_loop (X := Nat) (fun i => i ≤ 4 ∧ ∀ j, j < i → ys.getD (m + j) 0 = ((sumY (ys.take m) / 256 ^ j % 256 : Nat) : Int)) (fun i => [(0, .slice A ys.length c), (4, .int .i64 m), (5, .int .u32 (sumY (ys.take m) : Nat)), (16, .int .i64 i)]) (fun _ => []) (fun i => 4 - i) 0 ⟨by simp, fun j hj => by omega⟩ ⟨rfl, rfl, rfl, rfl, trivial⟩ (.nil _) ?_
  rintro i ⟨hi, hjs⟩
  obtain ⟨bA, oA, rfl, hA⟩ := hr.at_ (by omega : 0 < ys.length)
  have e8 : (8 * (i : Int)).toNat = 8 * i := by omega
  have em : ((m : Int) + i).toNat = m + i := by omega
  have hby := bput_byte (sumY (ys.take m)) i
  rw [← IntKind.wrap_u8', ← e8] at hby
  have hji := hjs
  refine z_tas
  · rename_i hne
    rw [em, hby] at hne
    exact j_out2 rfl rfl rfl (.nil _) (.inr ⟨fun e => hne (hcg.1 e i (by omega)), rfl, rfl⟩)
  · rename_i hne
    rw [em, hby] at hne
    refine c_round (i + 1) ⟨by omega, fun j hj => ?_⟩ (by show 4 - (i + 1) < 4 - i; omega) ⟨rfl, rfl, rfl, by simp [look], trivial⟩ (.nil _)
    rcases Nat.lt_or_ge j i with h1 | h1
    · exact hjs j h1
    · obtain rfl : j = i := by omega
      exact Decidable.of_not_not hne
  · exact j_out2 rfl rfl rfl Sub.au (.inl ⟨hcg.2 fun j hj => hjs j (by omega), _, _, rfl, rfl⟩)
theorem put_byte2 (x i : Nat) : ((x / 256 ^ i : Nat) : Int) % 256 = ((x / 256 ^ i % 256 : Nat) : Int) := by push_cast; rfl
set_option maxHeartbeats 16000000 in
theorem chnum_any (A : Option Addr) (c : Nat) (ys : List Int) (at_ size : Nat) (w : World) (hr : RoA w (blocks []) A ys.length c 1 (ints .u8 ys)) (hu : U8s ys) (hs : size ≤ 4) (ha : at_ + size ≤ ys.length) (hm : ys.length < 1000000000) :
    Does Try.prog 94 [.slice A ys.length c, .int .i64 at_, .int .i64 size] [] w (fun v S' => v = .int .i64 (leY ys at_ size : Nat) ∧ S' = []) := by
  have hlt := leY_lt hu ha
  have h4 : 256 ^ size ≤ 256 ^ 4 := Nat.pow_le_pow_right (by omega) hs
  refine does_of Try.func94 rfl Try.ntmps94 rfl ⟨by simp, .nil⟩ (fun n => ?_)
  simp only [slots]
  refine z_gox
  refine lfv rfl rfl rfl (fun w hw => bget_any A c ys at_ size w ⟨hr.h.go hw (Split.nil _)⟩ hu (by omega) ha hm) ?_
  refine z_tas
  exact j_out1 rfl rfl (.nil _) ⟨rfl, rfl⟩
end Go.Proofs.Ytemmnpgebpffbaa
/- The engine: in a drawn region, an operation that only reckons may be taken first. -/
namespace Go.Proofs.Ytemmnpgebpffbaa
open Go.RowKit
def pickOk (ops : Array Oper) (mask : List Bool) (rest : List Nat) (i d : Nat) (o : Oper) : Bool :=
  rest.contains i && ((List.range ops.size).all fun j => match ops[j]? with
    | none => true
    | some o' => plainB o' && (Nat.beq j i || (o'.dst != some d && (!(o'.looksAt ops).contains d || edgeB ops j i)))) &&
  rest.all fun j => (!litB ops mask j || litB ops mask i) && (match dstAt ops j with | some t => !(o.looksAt ops).contains t | none => true)
theorem vals_mapP {σ : List (Nat × Value)} {ρ : Operand → Value} : ∀ {l : List Operand} {vs : List Value}, vals σ l = some vs → (∀ x ∈ l, ∀ u, ev σ x = some u → ρ x = u) → l.map ρ = vs := by
  intro l
  induction l with
  | nil => intro vs hv _; simp [vals] at hv; simp [hv]
  | cons x r ih =>
    intro vs hv h
    simp only [vals] at hv
    cases hx : ev σ x with
    | none => simp [hx] at hv
    | some u =>
      cases hr : vals σ r with
      | none => simp [hx, hr] at hv
      | some us =>
        simp [hx, hr] at hv
        subst hv
        rw [List.map_cons, h x (List.mem_cons_self ..) u hx, ih hr fun y hy => h y (List.mem_cons_of_mem _ hy)]
theorem put_comm (a : Act) (d : Nat) (v : Value) (e : Option Nat) (u : Value) (h : e ≠ some d) : (a.put e u).put (some d) v = (a.put (some d) v).put e u := by
  cases e with
  | none => rfl
  | some t =>
    simp only [Act.put]
    congr 1
    exact Array.setIfInBounds_comm _ _ (fun e => h (by rw [e]))
theorem pick_core {F : Fence} {n : Nat} {P : Program} {w0 : World} {W : Nat → Prop} {HL : List HE} {Q : Exit → Act → World → Prop} {ops : Array Oper} {mask : List Bool} [hF : Wide F] {i d : Nat} {o : Oper} {v : Value} {L : Nat → Option Value}
    (hio : ops[i]? = some o) (hd : o.dst = some d)
    (hpl : ∀ (j : Nat) (o' : Oper), ops[j]? = some o' → plainB o' = true)
    (hoth : ∀ (j : Nat) (o' : Oper), j ≠ i → ops[j]? = some o' → o'.dst ≠ some d ∧ (d ∈ o'.looksAt ops → edgeB ops j i = true))
    (hval : ∀ a : Act, (∀ t ∈ o.looksAt ops, ∀ u, L t = some u → a.tmps[t]? = some u) → Region.wanted o (yielded ops a.tmps) = true ∧ ∀ w, (execOp a.eval o).run P w = .ok (.value v) w) :
    ∀ (m : Nat) (rest : List Nat) (a : Act) (w : World), i ∈ rest → rest.length ≤ m + 1 → (∀ j ∈ rest, litB ops mask j = true → litB ops mask i = true) → (∀ j ∈ rest, ∀ t, dstAt ops j = some t → t ∉ o.looksAt ops) → (litB ops mask i = true ∨ St w0 W HL w) →
      (∀ t ∈ o.looksAt ops, ∀ u, L t = some u → a.tmps[t]? = some u) → wpT F n P w0 W HL ops mask Q m (rest.erase i) (a.put (some d) v) w → wpT F n P w0 W HL ops mask Q (m + 1) rest a w := by
  have hnd : ∀ (j : Nat) (o' : Oper), ops[j]? = some o' → ∀ c, o'.op ≠ .defer c := by
    intro j o' h c e
    have := hpl j o' h
    unfold plainB at this; rw [e] at this; cases this
  intro m
  induction m with
  | zero =>
    intro rest a w hi hlen hlit hdst hst ha h
    refine ⟨fun e => (by rw [e] at hi; cases hi), fun j hj hr => ?_⟩
    have hji : j = i := by
      match rest, hlen, hi, hj with
      | [x], _, hi, hj => rw [List.mem_singleton.1 hi, List.mem_singleton.1 hj]
    subst hji
    have hopsAt : opsAt ops [j] = [o] := by simp [opsAt, hio]
    rw [hopsAt]
    obtain ⟨hw1, hw2⟩ := hval a ha
    simp only [wpListIn]
    rw [if_pos hw1]
    refine ⟨fun f _ => hF.out.fn f, ?_⟩
    rw [Oper.semAt_plain F _ _ (hnd j o hio), hw2 w, Oper.uponIn_value, hd]
    exact ⟨hst, h⟩
  | succ m ih =>
    intro rest a w hi hlen hlit hdst hst ha h
    refine ⟨fun e => (by rw [e] at hi; cases hi), fun j hj hr => ?_⟩
    by_cases hji : j = i
    · subst hji
      have hopsAt : opsAt ops [j] = [o] := by simp [opsAt, hio]
      rw [hopsAt]
      obtain ⟨hw1, hw2⟩ := hval a ha
      simp only [wpListIn]
      rw [if_pos hw1]
      refine ⟨fun f _ => hF.out.fn f, ?_⟩
      rw [Oper.semAt_plain F _ _ (hnd j o hio), hw2 w, Oper.uponIn_value, hd]
      exact ⟨hst, h⟩
    · have hwp := h.2 j ((List.mem_erase_of_ne hji).2 hj) (fun k hk => hr k (List.mem_of_mem_erase hk))
      cases hjo : ops[j]? with
      | none =>
        have hopsAt : opsAt ops [j] = [] := by simp [opsAt, hjo]
        rw [hopsAt] at hwp ⊢
        obtain ⟨hob, hwp⟩ := hwp
        refine ⟨hob, ih (rest.erase j) a w ((List.mem_erase_of_ne (fun e => hji e.symm)).2 hi) (by have := List.length_erase_of_mem hj; omega) (fun k hk => hlit k (List.mem_of_mem_erase hk)) (fun k hk => hdst k (List.mem_of_mem_erase hk)) hst ha ?_⟩
        have := hwp
        rw [List.erase_comm] at this
        exact this
      | some o' =>
        have hopsAt : opsAt ops [j] = [o'] := by simp [opsAt, hjo]
        rw [hopsAt] at hwp ⊢
        obtain ⟨hne, hlk⟩ := hoth j o' hji hjo
        have hnl : d ∉ o'.looksAt ops := fun hm => by have := hr i hi; rw [hlk hm] at this; cases this
        have hagree : ∀ t ∈ o'.looksAt ops, a.tmps[t]? = (a.put (some d) v).tmps[t]? := by
          intro t ht
          simp only [Act.put, Array.getElem?_setIfInBounds]
          rw [if_neg (fun e => hnl (by rw [e]; exact ht))]
        have hwt : Region.wanted o' (yielded ops a.tmps) = Region.wanted o' (yielded ops (a.put (some d) v).tmps) := by
          unfold Region.wanted
          cases hg : o'.guard with
          | none => rfl
          | some g =>
            obtain ⟨j', c⟩ := g
            simp only [yielded]
            cases hj : (ops[j']?).bind (·.dst) with
            | none => rfl
            | some t =>
              have : t ∈ o'.looksAt ops := by
                unfold Oper.looksAt
                rw [hg]
                exact List.mem_append_right _ (by simp [hj])
              simp only [Option.bind_some, hagree t this]
        have hev : execOp a.eval o' = execOp (a.put (some d) v).eval o' := by
          refine execOp_congr o' (fun cs c e => ?_) fun x hx => eval_of fun t e => ?_
          · have := hpl j o' hjo
            unfold plainB at this; rw [e] at this; cases this
          · subst e
            exact hagree t (List.mem_append_left _ (List.mem_filterMap.2 ⟨.tmp t, by simpa using hx, rfl⟩))
        have hnext : ∀ (ds : List Deferred) (u : Value) (w' : World), wpListIn F n P ops (nq fun _ b'' w'' => (litB ops mask j = true ∨ St w0 W HL w'') ∧ wpT F n P w0 W HL ops mask Q m ((rest.erase i).erase j) b'' w'') [] (({ (a.put (some d) v) with defers := ds } : Act).put o'.dst u) w' →
            wpListIn F n P ops (nq fun _ b'' w'' => (litB ops mask j = true ∨ St w0 W HL w'') ∧ wpT F n P w0 W HL ops mask Q (m + 1) (rest.erase j) b'' w'') [] (({ a with defers := ds } : Act).put o'.dst u) w' := by
          intro ds u w' hh
          obtain ⟨h1, h2⟩ := hh
          have hst' : litB ops mask i = true ∨ St w0 W HL w' := h1.imp (hlit j hj) id
          refine ⟨h1, ih (rest.erase j) _ w' ((List.mem_erase_of_ne (fun e => hji e.symm)).2 hi) (by have := List.length_erase_of_mem hj; omega) (fun k hk => hlit k (List.mem_of_mem_erase hk)) (fun k hk => hdst k (List.mem_of_mem_erase hk)) hst' (fun t ht u' hu' => ?_) ?_⟩
          · cases hdj : o'.dst with
            | none => exact ha t ht u' hu'
            | some e =>
              have hne2 : e ≠ t := fun hh => hdst j hj e (by simp [dstAt, hjo, hdj]) (by rw [hh]; exact ht)
              simp only [Act.put, Array.getElem?_setIfInBounds]
              rw [if_neg hne2]
              exact ha t ht u' hu'
          · rw [List.erase_comm, put_comm _ _ _ _ _ hne]
            exact h2
        simp only [wpListIn] at hwp ⊢
        rw [hwt]
        by_cases hw : Region.wanted o' (yielded ops (a.put (some d) v).tmps) = true
        · rw [if_pos hw] at hwp ⊢
          refine ⟨fun f _ => hF.out.fn f, ?_⟩
          have h2 := hwp.2
          rw [Oper.semAt_plain F _ _ (hnd j o' hjo), ← hev] at h2
          rw [Oper.semAt_plain F _ _ (hnd j o' hjo)]
          exact uponIn_sim h2 (fun u w' hh => hnext a.defers u w' hh) (fun x w' hh => hnext (x :: a.defers) undef w' hh)
        · rw [if_neg hw] at hwp ⊢
          exact ⟨fun f _ => hF.out.fn f, hnext a.defers undef w hwp.2⟩
/-- A tree that keeps more. -/
theorem wpT_strong {F : Fence} {n : Nat} {P : Program} {w0 : World} {W : Nat → Prop} {HL : List HE} {Q : Exit → Act → World → Prop} {ops : Array Oper} {mask mask' : List Bool} (hm : ∀ i, litB ops mask' i = true → litB ops mask i = true) :
    ∀ (m : Nat) (rest : List Nat) (b : Act) (w : World), wpT F n P w0 W HL ops mask' Q m rest b w → wpT F n P w0 W HL ops mask Q m rest b w := by
  intro m
  induction m with
  | zero => intro rest b w h; exact h
  | succ m ih =>
    intro rest b w h
    refine ⟨h.1, fun j hj hr => ?_⟩
    have hwp := h.2 j hj hr
    cases hjo : ops[j]? with
    | none =>
      have hopsAt : opsAt ops [j] = [] := by simp [opsAt, hjo]
      rw [hopsAt] at hwp ⊢
      exact ⟨hwp.1.imp (hm j) id, ih _ _ _ hwp.2⟩
    | some o' =>
      have hopsAt : opsAt ops [j] = [o'] := by simp [opsAt, hjo]
      rw [hopsAt] at hwp ⊢
      have hnext : ∀ (c : Act) (w' : World), wpListIn F n P ops (nq fun _ b'' w'' => (litB ops mask' j = true ∨ St w0 W HL w'') ∧ wpT F n P w0 W HL ops mask' Q m (rest.erase j) b'' w'') [] c w' →
          wpListIn F n P ops (nq fun _ b'' w'' => (litB ops mask j = true ∨ St w0 W HL w'') ∧ wpT F n P w0 W HL ops mask Q m (rest.erase j) b'' w'') [] c w' := fun c w' hh => ⟨hh.1.imp (hm j) id, ih _ _ _ hh.2⟩
      simp only [wpListIn] at hwp ⊢
      by_cases hw : Region.wanted o' (yielded ops b.tmps) = true
      · rw [if_pos hw] at hwp ⊢
        exact ⟨hwp.1, uponIn_sim hwp.2 (fun u w' hh => hnext _ w' hh) (fun x w' hh => hnext _ w' hh)⟩
      · rw [if_neg hw] at hwp ⊢
        exact ⟨hwp.1, hnext _ w hwp.2⟩
section
variable {F : Fence} {n : Nat} {P : Program} {N : Nat} {ds : List Deferred} {w0 : World} {W : Nat → Prop} {σ : List (Nat × Value)} {H HL : List HE} {Q : Exit → Act → World → Prop} {ops : Array Oper} {mask : List Bool} {m : Nat} {rest : List Nat}
theorem lit_full {ops : Array Oper} {mask : List Bool} (k : Nat) (hk : Nat.ble ops.size k = true) (i : Nat) (h : litB ops (List.replicate k true) i = true) : litB ops mask i = true := by
  unfold litB at h ⊢
  refine List.all_eq_true.2 fun j hj => ?_
  have h1 := List.all_eq_true.1 h j hj
  have h2 : mAt (List.replicate k true) j = true := by
    unfold mAt
    have := List.mem_range.1 hj
    have := Nat.le_of_ble_eq_true hk
    rw [List.getD_eq_getElem?_getD, List.getElem?_replicate, if_pos (by omega)]
    rfl
  rw [h2] at h1
  rw [show edgeB ops i j = true by simpa using h1]
  simp
/-- What the light operations look at stays; so pure ones may be taken first. -/
theorem t_weak (k : Nat) (hk : Nat.ble ops.size k = true) (h : J N ds w0 W σ H (wpT F n P w0 W HL ops (List.replicate k true) Q m rest)) : J N ds w0 W σ H (wpT F n P w0 W HL ops mask Q m rest) :=
  fun a w ha hw => wpT_strong (fun i hi => lit_full k hk i hi) m rest a w (h a w ha hw)
/-- An operation that only reckons, first. -/
theorem t_pick (i : Nat) {d : Nat} {op : Op} {ty : TypeId} {pos : String} {aft : Array Edge} {gd : Option (Nat × Bool)} {vs : List Value} {v : Value} {c : Prop} [hF : Wide F] (hio : ops.toList[i]? = some ⟨some d, op, ty, pos, aft, gd⟩) (hok : pickOk ops mask rest i d ⟨some d, op, ty, pos, aft, gd⟩ = true) (hlen : Nat.ble rest.length (m + 1) = true)
    (hw : wantd ops σ ⟨some d, op, ty, pos, aft, gd⟩ = some true) (hv : vals σ op.operands.toList = some vs) [hp : PV P op vs v c] (hc : c) (hdN : Nat.blt d N = true) (hs : Sub HL H)
    (h : J N ds w0 W ((d, v) :: σ) H (wpT F n P w0 W HL ops mask Q m (rest.erase i))) : J N ds w0 W σ H (wpT F n P w0 W HL ops mask Q (m + 1) rest) := by
  intro a w ha hst
  rw [Array.getElem?_toList] at hio
  generalize ho : (⟨some d, op, ty, pos, aft, gd⟩ : Oper) = o at *
  have hd : o.dst = some d := by rw [← ho]
  have hop : o.op = op := by rw [← ho]
  unfold pickOk at hok
  simp only [Bool.and_eq_true] at hok
  obtain ⟨⟨hin, hall⟩, hrest⟩ := hok
  have hq : ∀ ρ : Operand → Value, (∀ x ∈ o.op.operands.toList, ∀ u, ev σ x = some u → ρ x = u) → ∀ w, (execOp ρ o).run P w = .ok (.value v) w := by
    subst ho
    intro ρ h w
    exact hp.h hc ρ _ rfl (vals_mapP hv h) w
  have hper : ∀ (j : Nat) (o' : Oper), ops[j]? = some o' → plainB o' = true ∧ (j ≠ i → o'.dst ≠ some d ∧ (d ∈ o'.looksAt ops → edgeB ops j i = true)) := by
    intro j o' hj
    have h1 := List.all_eq_true.1 hall j (List.mem_range.2 (Array.getElem?_eq_some_iff.1 hj).1)
    rw [hj] at h1
    simp only [Bool.and_eq_true] at h1
    refine ⟨h1.1, fun hne => ?_⟩
    have h2 := h1.2
    have e2 : Nat.beq j i = false := by
      cases hb : Nat.beq j i with
      | false => rfl
      | true => exact absurd (Nat.eq_of_beq_eq_true hb) hne
    rw [e2] at h2
    simp only [Bool.false_or, Bool.and_eq_true] at h2
    refine ⟨by simpa using h2.1, fun hm => ?_⟩
    have h3 := h2.2
    have e3 : (o'.looksAt ops).contains d = true := by simpa using hm
    rw [e3] at h3
    simpa using h3
  refine pick_core (L := look σ) hio hd (fun j o' hj => (hper j o' hj).1) (fun j o' hne hj => (hper j o' hj).2 hne) (fun a' ha' => ⟨wanted_at ha' hw, fun w' => hq _ (fun x hx u hu => ?_) w'⟩) m rest a w (by simpa using hin) (Nat.le_of_ble_eq_true hlen) (fun j hj hlt => ?_) (fun j hj t ht hm => ?_) (.inr (hst.sub hs)) (fun t _ u hu => ha.at_ t u hu) ?_
  · cases x with
    | tmp t =>
      have := ha' t (List.mem_append_left _ (List.mem_filterMap.2 ⟨.tmp t, hx, rfl⟩)) u hu
      simp [Act.eval, this]
    | const u => simpa [ev, Act.eval] using hu
    | global g => simpa [ev, Act.eval] using hu
    | func f => simpa [ev, Act.eval] using hu
  · have := List.all_eq_true.1 hrest j hj
    simp only [Bool.and_eq_true] at this
    have h1 := this.1
    rw [hlt] at h1
    simpa using h1
  · have := List.all_eq_true.1 hrest j hj
    simp only [Bool.and_eq_true] at this
    have h2 := this.2
    simp [ht, hm] at h2
  · exact h _ _ (ha.put d v (by simpa using hdN)) hst
end
end Go.Proofs.Ytemmnpgebpffbaa
/- The engine: in a drawn region, an operation that only reckons or looks may be taken first, whatever turns memory behind it. -/
namespace Go.Proofs.Ytemmnpgebpffbaa
open Go.RowKit
theorem look_core {F : Fence} {n : Nat} {P : Program} {w0 : World} {W : Nat → Prop} {HL : List HE} {Q : Exit → Act → World → Prop} {ops : Array Oper} {mask : List Bool} [hF : Wide F] {i d : Nat} {o : Oper} {v : Value} {L : Nat → Option Value}
    (hio : ops[i]? = some o) (hd : o.dst = some d)
    (hpl : ∀ (j : Nat) (o' : Oper), ops[j]? = some o' → plainB o' = true)
    (hoth : ∀ (j : Nat) (o' : Oper), j ≠ i → ops[j]? = some o' → o'.dst ≠ some d ∧ (d ∈ o'.looksAt ops → edgeB ops j i = true))
    (hval : ∀ a : Act, (∀ t ∈ o.looksAt ops, ∀ u, L t = some u → a.tmps[t]? = some u) → (Region.wanted o (yielded ops a.tmps) = true ∧ ∀ w, St w0 W HL w → (execOp a.eval o).run P w = .ok (.value v) w) ∨ (Region.wanted o (yielded ops a.tmps) = false ∧ v = undef)) :
    ∀ (m : Nat) (rest : List Nat) (a : Act) (w : World), i ∈ rest → rest.length ≤ m + 1 → (∀ j ∈ rest, litB ops mask j = false) → (∀ j ∈ rest, ∀ t, dstAt ops j = some t → t ∉ o.looksAt ops) → St w0 W HL w →
      (∀ t ∈ o.looksAt ops, ∀ u, L t = some u → a.tmps[t]? = some u) → wpT F n P w0 W HL ops mask Q m (rest.erase i) (a.put (some d) v) w → wpT F n P w0 W HL ops mask Q (m + 1) rest a w := by
  have hnd : ∀ (j : Nat) (o' : Oper), ops[j]? = some o' → ∀ c, o'.op ≠ .defer c := by
    intro j o' h c e
    have := hpl j o' h
    unfold plainB at this; rw [e] at this; cases this
  have hme : ∀ (m : Nat) (rest : List Nat) (a : Act) (w : World), St w0 W HL w → (∀ t ∈ o.looksAt ops, ∀ u, L t = some u → a.tmps[t]? = some u) → wpT F n P w0 W HL ops mask Q m (rest.erase i) (a.put (some d) v) w →
      wpListIn F n P ops (nq fun _ b' w' => (litB ops mask i = true ∨ St w0 W HL w') ∧ wpT F n P w0 W HL ops mask Q m (rest.erase i) b' w') [o] a w := by
    intro m rest a w hst ha h
    simp only [wpListIn]
    rcases hval a ha with ⟨hw1, hw2⟩ | ⟨hw1, hw2⟩
    · rw [if_pos hw1]
      refine ⟨fun f _ => hF.out.fn f, ?_⟩
      rw [Oper.semAt_plain F _ _ (hnd i o hio), hw2 w hst, Oper.uponIn_value, hd]
      exact ⟨.inr hst, h⟩
    · rw [if_neg (by rw [hw1]; simp)]
      refine ⟨fun f _ => hF.out.fn f, ?_⟩
      rw [hd]
      subst hw2
      exact ⟨.inr hst, h⟩
  intro m
  induction m with
  | zero =>
    intro rest a w hi hlen hlit hdst hst ha h
    refine ⟨fun e => (by rw [e] at hi; cases hi), fun j hj hr => ?_⟩
    have hji : j = i := by
      match rest, hlen, hi, hj with
      | [x], _, hi, hj => rw [List.mem_singleton.1 hi, List.mem_singleton.1 hj]
    subst hji
    have hopsAt : opsAt ops [j] = [o] := by simp [opsAt, hio]
    rw [hopsAt]
    exact hme 0 rest a w hst ha h
  | succ m ih =>
    intro rest a w hi hlen hlit hdst hst ha h
    refine ⟨fun e => (by rw [e] at hi; cases hi), fun j hj hr => ?_⟩
    by_cases hji : j = i
    · subst hji
      have hopsAt : opsAt ops [j] = [o] := by simp [opsAt, hio]
      rw [hopsAt]
      exact hme (m + 1) rest a w hst ha h
    · have hwp := h.2 j ((List.mem_erase_of_ne hji).2 hj) (fun k hk => hr k (List.mem_of_mem_erase hk))
      cases hjo : ops[j]? with
      | none =>
        have hopsAt : opsAt ops [j] = [] := by simp [opsAt, hjo]
        rw [hopsAt] at hwp ⊢
        obtain ⟨hob, hwp⟩ := hwp
        refine ⟨hob, ih (rest.erase j) a w ((List.mem_erase_of_ne (fun e => hji e.symm)).2 hi) (by have := List.length_erase_of_mem hj; omega) (fun k hk => hlit k (List.mem_of_mem_erase hk)) (fun k hk => hdst k (List.mem_of_mem_erase hk)) hst ha ?_⟩
        have := hwp
        rw [List.erase_comm] at this
        exact this
      | some o' =>
        have hopsAt : opsAt ops [j] = [o'] := by simp [opsAt, hjo]
        rw [hopsAt] at hwp ⊢
        obtain ⟨hne, hlk⟩ := hoth j o' hji hjo
        have hnl : d ∉ o'.looksAt ops := fun hm => by have := hr i hi; rw [hlk hm] at this; cases this
        have hagree : ∀ t ∈ o'.looksAt ops, a.tmps[t]? = (a.put (some d) v).tmps[t]? := by
          intro t ht
          simp only [Act.put, Array.getElem?_setIfInBounds]
          rw [if_neg (fun e => hnl (by rw [e]; exact ht))]
        have hwt : Region.wanted o' (yielded ops a.tmps) = Region.wanted o' (yielded ops (a.put (some d) v).tmps) := by
          unfold Region.wanted
          cases hg : o'.guard with
          | none => rfl
          | some g =>
            obtain ⟨j', c⟩ := g
            simp only [yielded]
            cases hj : (ops[j']?).bind (·.dst) with
            | none => rfl
            | some t =>
              have : t ∈ o'.looksAt ops := by
                unfold Oper.looksAt
                rw [hg]
                exact List.mem_append_right _ (by simp [hj])
              simp only [Option.bind_some, hagree t this]
        have hev : execOp a.eval o' = execOp (a.put (some d) v).eval o' := by
          refine execOp_congr o' (fun cs c e => ?_) fun x hx => eval_of fun t e => ?_
          · have := hpl j o' hjo
            unfold plainB at this; rw [e] at this; cases this
          · subst e
            exact hagree t (List.mem_append_left _ (List.mem_filterMap.2 ⟨.tmp t, by simpa using hx, rfl⟩))
        have hnext : ∀ (ds : List Deferred) (u : Value) (w' : World), wpListIn F n P ops (nq fun _ b'' w'' => (litB ops mask j = true ∨ St w0 W HL w'') ∧ wpT F n P w0 W HL ops mask Q m ((rest.erase i).erase j) b'' w'') [] (({ (a.put (some d) v) with defers := ds } : Act).put o'.dst u) w' →
            wpListIn F n P ops (nq fun _ b'' w'' => (litB ops mask j = true ∨ St w0 W HL w'') ∧ wpT F n P w0 W HL ops mask Q (m + 1) (rest.erase j) b'' w'') [] (({ a with defers := ds } : Act).put o'.dst u) w' := by
          intro ds u w' hh
          obtain ⟨h1, h2⟩ := hh
          have hst' : St w0 W HL w' := by
            rcases h1 with h1 | h1
            · rw [hlit j hj] at h1; cases h1
            · exact h1
          refine ⟨h1, ih (rest.erase j) _ w' ((List.mem_erase_of_ne (fun e => hji e.symm)).2 hi) (by have := List.length_erase_of_mem hj; omega) (fun k hk => hlit k (List.mem_of_mem_erase hk)) (fun k hk => hdst k (List.mem_of_mem_erase hk)) hst' (fun t ht u' hu' => ?_) ?_⟩
          · cases hdj : o'.dst with
            | none => exact ha t ht u' hu'
            | some e =>
              have hne2 : e ≠ t := fun hh => hdst j hj e (by simp [dstAt, hjo, hdj]) (by rw [hh]; exact ht)
              simp only [Act.put, Array.getElem?_setIfInBounds]
              rw [if_neg hne2]
              exact ha t ht u' hu'
          · rw [List.erase_comm, put_comm _ _ _ _ _ hne]
            exact h2
        simp only [wpListIn] at hwp ⊢
        rw [hwt]
        by_cases hw : Region.wanted o' (yielded ops (a.put (some d) v).tmps) = true
        · rw [if_pos hw] at hwp ⊢
          refine ⟨fun f _ => hF.out.fn f, ?_⟩
          have h2 := hwp.2
          rw [Oper.semAt_plain F _ _ (hnd j o' hjo), ← hev] at h2
          rw [Oper.semAt_plain F _ _ (hnd j o' hjo)]
          exact uponIn_sim h2 (fun u w' hh => hnext a.defers u w' hh) (fun x w' hh => hnext (x :: a.defers) undef w' hh)
        · rw [if_neg hw] at hwp ⊢
          exact ⟨fun f _ => hF.out.fn f, hnext a.defers undef w hwp.2⟩
/-- A list without what stands at a place. -/
class EraX (l : List Nat) (k : Nat) (r : outParam (List Nat)) : Prop where h : l.eraseIdx k = r
instance (x : Nat) (r : List Nat) : EraX (x :: r) 0 r := ⟨rfl⟩
instance (x k : Nat) (r r' : List Nat) [h : EraX r k r'] : EraX (x :: r) (k + 1) (x :: r') := ⟨by rw [List.eraseIdx_cons_succ, h.h]⟩
theorem era_head (i : Nat) (r : List Nat) : (i :: r).erase i = r := by simp
theorem era_step {j i : Nat} {r r' : List Nat} (hne : Nat.beq j i = false) (h : r.erase i = r') : (j :: r).erase i = j :: r' := by
  rw [List.erase_cons]
  have : (j == i) = false := by
    simp only [beq_eq_false_iff_ne]
    intro e
    rw [e] at hne
    simp at hne
  rw [this]
  simp [h]
/-- A region in which what is looked at is waited for. -/
def regOk (ops : Array Oper) : Bool := (List.range ops.size).all fun i => match ops[i]? with
  | none => true
  | some o => plainB o && (!edgeB ops i i) && (match o.dst with | none => true | some d => (!(o.looksAt ops).contains d) &&
      ((List.range ops.size).all fun j => Nat.beq j i || (match ops[j]? with | none => true | some o' => o'.dst != some d && (!(o'.looksAt ops).contains d || edgeB ops j i))))
class RegV (ops : Array Oper) : Prop where
  ok : regOk ops = true
  few : ops.size ≤ 300
/-- None of those that are left is waited for. -/
def unbl (rest : List Nat) (aft : Array Edge) : Bool := rest.all fun j => !(aft.any fun e => Region.binds .any e && e.on == j)
section
variable {F : Fence} {n : Nat} {P : Program} {N : Nat} {ds : List Deferred} {w0 : World} {W : Nat → Prop} {σ : List (Nat × Value)} {H HL : List HE} {Q : Exit → Act → World → Prop} {ops : Array Oper} {m : Nat} {rest rest' : List Nat}
theorem RegV.at_ (h : RegV ops) {i : Nat} {o : Oper} (hi : ops[i]? = some o) : plainB o = true ∧ edgeB ops i i = false ∧ ∀ d, o.dst = some d → d ∉ o.looksAt ops ∧ ∀ j o', j ≠ i → ops[j]? = some o' → o'.dst ≠ some d ∧ (d ∈ o'.looksAt ops → edgeB ops j i = true) := by
  have h1 := List.all_eq_true.1 h.ok i (List.mem_range.2 (Array.getElem?_eq_some_iff.1 hi).1)
  rw [hi] at h1
  simp only [Bool.and_eq_true] at h1
  obtain ⟨⟨h1, h2⟩, h3⟩ := h1
  refine ⟨h1, by simpa using h2, fun d hd => ?_⟩
  rw [hd] at h3
  simp only [Bool.and_eq_true] at h3
  obtain ⟨h3, h4⟩ := h3
  refine ⟨by simpa using h3, fun j o' hne hj => ?_⟩
  have h5 := List.all_eq_true.1 h4 j (List.mem_range.2 (Array.getElem?_eq_some_iff.1 hj).1)
  rw [hj] at h5
  have e : Nat.beq j i = false := by
    cases hb : Nat.beq j i with
    | false => rfl
    | true => exact absurd (Nat.eq_of_beq_eq_true hb) hne
  rw [e] at h5
  simp only [Bool.false_or, Bool.and_eq_true] at h5
  refine ⟨by simpa using h5.1, fun hm => ?_⟩
  have h6 := h5.2
  have e3 : (o'.looksAt ops).contains d = true := by simpa using hm
  rw [e3] at h6
  simpa using h6
theorem RegV.lit (h : RegV ops) (hpos : 0 < ops.size) (j : Nat) : litB ops (List.replicate 300 true) j = false := by
  have hm : ∀ k, k < 300 → mAt (List.replicate 300 true) k = true := fun k hk => by
    unfold mAt
    rw [List.getD_eq_getElem?_getD, List.getElem?_replicate, if_pos hk]
    rfl
  cases hc : litB ops (List.replicate 300 true) j with
  | false => rfl
  | true =>
    have hf := h.few
    unfold litB at hc
    cases hj : ops[j]? with
    | none =>
      have h1 := List.all_eq_true.1 hc 0 (List.mem_range.2 hpos)
      rw [hm 0 (by omega)] at h1
      unfold edgeB at h1
      rw [hj] at h1
      simp at h1
    | some o =>
      have hlt := (Array.getElem?_eq_some_iff.1 hj).1
      have h1 := List.all_eq_true.1 hc j (List.mem_range.2 hlt)
      rw [hm j (by omega), (h.at_ hj).2.1] at h1
      simp at h1
theorem look_any {i d : Nat} {o : Oper} {v : Value} [hF : Wide F] [hV : RegV ops] (hio : ops.toList[i]? = some o) (hd : o.dst = some d) (hin : i ∈ rest) (hok : unbl rest o.after = true) (hlen : Nat.ble rest.length (m + 1) = true)
    (hq : (wantd ops σ o = some true ∧ LQ P w0 W HL σ o v) ∨ (wantd ops σ o = some false ∧ v = undef)) (hdN : Nat.blt d N = true) (hs : Sub HL H) (he : rest.erase i = rest')
    (h : J N ds w0 W ((d, v) :: σ) H (wpT F n P w0 W HL ops (List.replicate 300 true) Q m rest')) : J N ds w0 W σ H (wpT F n P w0 W HL ops (List.replicate 300 true) Q (m + 1) rest) := by
  intro a w ha hst
  subst he
  rw [Array.getElem?_toList] at hio
  have hpos : 0 < ops.size := by have := (Array.getElem?_eq_some_iff.1 hio).1; omega
  refine look_core (v := v) (L := look σ) hio hd (fun j o' hj => (hV.at_ hj).1) (fun j o' hne hj => ((hV.at_ hio).2.2 d hd).2 j o' hne hj) (fun a' ha' => ?_) m rest a w hin (Nat.le_of_ble_eq_true hlen) (fun j _ => hV.lit hpos j) (fun j hj t ht hm => ?_) (hst.sub hs) (fun t _ u hu => ha.at_ t u hu) ?_
  · rcases hq with ⟨hw, hl⟩ | ⟨hw, hv⟩
    · refine .inl ⟨wanted_at ha' hw, fun w' hw' => hl _ (fun x hx u hu => ?_) w' hw'⟩
      cases x with
      | tmp t =>
        have := ha' t (List.mem_append_left _ (List.mem_filterMap.2 ⟨.tmp t, hx, rfl⟩)) u hu
        simp [Act.eval, this]
      | const u => simpa [ev, Act.eval] using hu
      | global g => simpa [ev, Act.eval] using hu
      | func f => simpa [ev, Act.eval] using hu
    · exact .inr ⟨wanted_at ha' hw, hv⟩
  · unfold dstAt at ht
    cases hjo : ops[j]? with
    | none => rw [hjo] at ht; cases ht
    | some o' =>
      rw [hjo] at ht
      have ht' : o'.dst = some t := ht
      by_cases hji : j = i
      · subst hji
        rw [hio] at hjo
        injection hjo with e
        subst e
        exact ((hV.at_ hio).2.2 t ht').1 hm
      · have h1 := ((hV.at_ hjo).2.2 t ht').2 i o (fun e => hji e.symm) hio
        have h2 := h1.2 hm
        unfold edgeB at h2
        rw [hio] at h2
        have h3 := List.all_eq_true.1 hok j hj
        simp only at h2
        rw [h2] at h3
        simp at h3
  · exact h _ _ (ha.put d v (by simpa using hdN)) hst
theorem mem_of_get {l : List Nat} {k i : Nat} (h : l[k]? = some i) : i ∈ l := List.mem_of_getElem? h
/-- The operation that stands there in the list of what is left, first. -/
theorem t_look (k : Nat) {i d : Nat} {op : Op} {ty : TypeId} {pos : String} {aft : Array Edge} {gd : Option (Nat × Bool)} {vs : List Value} {v : Value} {c : Prop} [hF : Wide F] [hV : RegV ops] (hk : rest[k]? = some i) (hio : ops.toList[i]? = some ⟨some d, op, ty, pos, aft, gd⟩) (hw : wantd ops σ ⟨some d, op, ty, pos, aft, gd⟩ = some true) (hv : vals σ op.operands.toList = some vs) [hp : LV P w0 W HL op vs v c] (hdN : Nat.blt d N = true) (hlen : Nat.ble rest.length (m + 1) = true) [he : EraX rest k rest'] (hc : c)
    (hok : (unbl rest aft && rest.erase i == rest.eraseIdx k) = true) (hs : Sub HL H) (h : J N ds w0 W ((d, v) :: σ) H (wpT F n P w0 W HL ops (List.replicate 300 true) Q m rest')) : J N ds w0 W σ H (wpT F n P w0 W HL ops (List.replicate 300 true) Q (m + 1) rest) := by
  simp only [Bool.and_eq_true, beq_iff_eq] at hok
  exact look_any hio rfl (mem_of_get hk) hok.1 hlen (.inl ⟨hw, lq_of (vs := vs) (c := c) hv hc⟩) hdN hs (hok.2.trans he.h) h
/-- The same; it is not wanted. -/
theorem t_none (k : Nat) {i d : Nat} {op : Op} {ty : TypeId} {pos : String} {aft : Array Edge} {gd : Option (Nat × Bool)} [hF : Wide F] [hV : RegV ops] (hk : rest[k]? = some i) (hio : ops.toList[i]? = some ⟨some d, op, ty, pos, aft, gd⟩) (hw : wantd ops σ ⟨some d, op, ty, pos, aft, gd⟩ = some false) (hdN : Nat.blt d N = true) (hlen : Nat.ble rest.length (m + 1) = true) [he : EraX rest k rest']
    (hok : (unbl rest aft && rest.erase i == rest.eraseIdx k) = true) (hs : Sub HL H) (h : J N ds w0 W ((d, undef) :: σ) H (wpT F n P w0 W HL ops (List.replicate 300 true) Q m rest')) : J N ds w0 W σ H (wpT F n P w0 W HL ops (List.replicate 300 true) Q (m + 1) rest) := by
  simp only [Bool.and_eq_true, beq_iff_eq] at hok
  exact look_any hio rfl (mem_of_get hk) hok.1 hlen (.inr ⟨hw, rfl⟩) hdN hs (hok.2.trans he.h) h
variable {mask : List Bool}
theorem t_nrm (he : rest = rest') (h : J N ds w0 W σ H (wpT F n P w0 W HL ops mask Q m rest')) : J N ds w0 W σ H (wpT F n P w0 W HL ops mask Q m rest) := by rw [he]; exact h
/-- A region that draws: all of its operations, in each order that may be; what HL holds stays. -/
theorem c_drv {id : Nat} {l : List Oper} (HL : List HE) (r : List Nat) [hF : Wide F] (hs : Sub HL H) (hr : (hvIdx l.toArray (List.replicate l.toArray.size false) == r) = true) (hmx : P.follows .mixedOrders = true) (hok : maskOkX l.toArray (List.replicate l.toArray.size false) = true) (hp : (pvIdx l.toArray (List.replicate l.toArray.size false)).isEmpty = true) (hk : (Nat.ble l.toArray.size 300 && regOk l.toArray) = true)
    (h : RegV l.toArray → J N ds w0 W σ H (wpT F n P w0 W HL l.toArray (List.replicate 300 true) Q r.length r)) : J N ds w0 W σ H ((Code.region id l.toArray true).wpIn F n P Q) :=
  c_drx HL _ r hs (by simpa using hr) hmx hok (by
    simp only [Bool.and_eq_true] at hk
    rw [List.isEmpty_iff.1 hp]
    exact x_nil (t_weak 300 hk.1 (h ⟨hk.2, Nat.le_of_ble_eq_true hk.1⟩)))
theorem t_lit (b0 : Bool) {i j t : Nat} {o : Oper} {b : Bool} {r : List Nat} {k : Act → World → Prop} (hk : rest = i :: r) (hio : ops.toList[i]? = some o) (hg : o.guard = some (j, b)) (ht : (ops[j]?).bind (·.dst) = some t) (hv : look σ t = some (.bool b0)) (h : J N ds w0 W σ H (wpT F n P w0 W HL ops mask Q m rest)) : J N ds w0 W σ H (wpT F n P w0 W HL ops mask Q m rest) := h
/-- A guard that is not known: both ways. -/
theorem t_gd {i j t : Nat} {o : Oper} {b c : Bool} {p : Prop} {r : List Nat} [hb : BoolP c p] (hk : rest = i :: r) (hio : ops.toList[i]? = some o) (hg : o.guard = some (j, b)) (ht : (ops[j]?).bind (·.dst) = some t) (hv : look σ t = some (.bool c))
    (h1 : p → J N ds w0 W ((t, .bool true) :: σ) H (wpT F n P w0 W HL ops mask Q m rest)) (h2 : ¬ p → J N ds w0 W ((t, .bool false) :: σ) H (wpT F n P w0 W HL ops mask Q m rest)) : J N ds w0 W σ H (wpT F n P w0 W HL ops mask Q m rest) := j_dec t hv h1 h2
end
section
variable {P : Program} {w0 : World} {W : Nat → Prop} {H : List HE}
instance (priority := 2500) (t u : TypeId) (x y : Operand) (b : Bool) [hu : Und P t .bool] : LV P w0 W H (.binOp .eql t x y u) [.bool b, .bool b] (.bool true) True := ⟨fun c => by
  have := LV.h (P := P) (w0 := w0) (W := W) (H := H) (op := .binOp .eql t x y u) (vs := [.bool b, .bool b]) (v := .bool (b == b)) c
  rw [beq_self_eq_true] at this
  exact this⟩
instance (priority := 2500) (t u : TypeId) (x y : Operand) (k : IntKind) (a : Int) : LV P w0 W H (.binOp .eql t x y u) [.int k a, .int k a] (.bool true) True := ⟨fun c => by
  have := LV.h (P := P) (w0 := w0) (W := W) (H := H) (op := .binOp .eql t x y u) (vs := [.int k a, .int k a]) (v := .bool (a == a)) c
  rw [beq_self_eq_true] at this
  exact this⟩
instance (priority := 2500) (t u : TypeId) (x y : Operand) (k : IntKind) (a : Int) : LV P w0 W H (.binOp .neq t x y u) [.int k a, .int k a] (.bool false) True := ⟨fun c => by
  have := LV.h (P := P) (w0 := w0) (W := W) (H := H) (op := .binOp .neq t x y u) (vs := [.int k a, .int k a]) (v := .bool (a != a)) c
  rw [bne_self_eq_false] at this
  exact this⟩
end
end Go.Proofs.Ytemmnpgebpffbaa
/- Package chart: Check, Places, Head, header; the reference's Check and Same. -/
namespace Go.Proofs.Ytemmnpgebpffbaa
open Go.RowKit
def placesTo (W k : Nat) : List (Int × Int) := (List.range k).map fun i => (tX W i, tY W i)
theorem placesTo_len (W k : Nat) : (placesTo W k).length = k := by simp [placesTo]
theorem placesTo_succ (W k : Nat) : placesTo W (k + 1) = placesTo W k ++ [(tX W k, tY W k)] := by simp [placesTo, List.range_succ]
theorem placesTo_get (W k i : Nat) (h : i < k) : (placesTo W k).getD i default = (tX W i, tY W i) := by simp [placesTo, List.getD_eq_getElem?_getD, h]
theorem tXY {W x y : Nat} (h : x < cntF W) : tX W (y * cntF W + x) = x ∧ tY W (y * cntF W + x) = y := by
  unfold tX tY
  rw [Nat.add_comm, Nat.mul_comm, Nat.add_mul_mod_self_left, Nat.mod_eq_of_lt h, Nat.add_mul_div_left _ _ (by omega), Nat.div_eq_of_lt h, Nat.zero_add]
  exact ⟨rfl, rfl⟩
/-- What is wrong with a map. -/
def chkC (W H : Int) (z : List Int) (cell : Int) : Int := if chkF W H z ≠ 0 then chkF W H z else if cell < 1 ∨ 1000 < cell then 1 else 0
instance (priority := 2000) (P : Program) (s t : TypeId) (x : Operand) (a : Int) (dd : TypeDesc) [hs : Und P s dd] [ht : Und P t (.int .u32)] : PV P (.convert s t x) [.int .i32 a] (.int .u32 (u32N a : Nat)) True := ⟨by
  rintro hc ρ ⟨dst, op', ty, pos, aft, gd⟩ rfl h w
  have e : IntKind.u32.wrap a = (u32N a : Nat) := by unfold u32N; rw [IntKind.wrap_u32']; omega
  simp [execOp, map1 h, convert, run_underlying hs.h, run_underlying ht.h, Conv.intToInt, e]⟩
attribute [local irreducible] OJ J HdJ Code.wpIn wpListIn Oper.wpIn bodyPost CallsIn Does
set_option maxRecDepth 4000
set_option maxHeartbeats 16000000 in
theorem chkc_any (W H : Int) (A : Option Addr) (c : Nat) (z : List Int) (cell ox oy : Int) (w : World) :
    Does Try.prog 64 [.agg #[.int .i64 W, .int .i64 H, .slice A z.length c, .int .i64 cell, .int .i32 ox, .int .i32 oy]] [] w (fun v S' => v = .int .i64 (chkC W H z cell) ∧ S' = []) := by
  refine does_of Try.func64 rfl Try.ntmps64 rfl ⟨by simp, .nil⟩ (fun n => ?_)
  simp only [slots]
  unfold chkC
  refine z_tas
  refine lfv rfl rfl rfl (fun w _ => chk_any W H A c z w) ?_
  refine z_tas
  · exact j_out1 rfl rfl (.nil _) ⟨by rw [if_pos (by assumption)], rfl⟩
  · exact j_out1 rfl rfl (.nil _) ⟨by rw [if_neg (by assumption), if_pos (by omega)], rfl⟩
  · exact j_out1 rfl rfl (.nil _) ⟨by rw [if_neg (by assumption), if_pos (by omega)], rfl⟩
  · exact j_out1 rfl rfl (.nil _) ⟨by rw [if_neg (by assumption), if_neg (by omega)], rfl⟩
set_option maxHeartbeats 16000000 in
theorem places_any (W H : Nat) (w : World) (hm : W ≤ 256 ∧ H ≤ 256) :
    Does Try.prog 67 [.int .i64 W, .int .i64 H] [] w (fun v S' => ∃ A' c', v = .slice A' (placesTo W (nT W H)).length c' ∧ S' = [.row (.slice A' (placesTo W (nT W H)).length c') 132 2 (placesTo W (nT W H)).length (flat spotE (placesTo W (nT W H)))]) := by
  refine does_of Try.func67 rfl Try.ntmps67 rfl ⟨by simp, .nil⟩ (fun n => ?_)
  simp only [slots]
  have hcW := cnt_le hm.1
  have hcH := cnt_le hm.2
  refine j_nil (e := 132) (size := 2) ?_
  refine z_tas
  refine lfv rfl rfl rfl (fun w _ => cnt_any H w (by omega)) ?_
  refine z_tas
  refine c_loop (X := Nat × Option Addr × Nat) (fun q => q.1 ≤ cntF H) (fun q => [(0, .int .i64 W), (5, .slice q.2.1 (placesTo W (q.1 * cntF W)).length q.2.2), (9, .int .i64 (cntF H : Nat)), (10, .int .i64 q.1)])
    (fun q => [.row (.slice q.2.1 (placesTo W (q.1 * cntF W)).length q.2.2) 132 2 (placesTo W (q.1 * cntF W)).length (flat spotE (placesTo W (q.1 * cntF W)))]) (fun q => cntF H - q.1) (0, none, 0) (by simp) ⟨rfl, by simp [look, placesTo], rfl, rfl, trivial⟩ (by simp only [Nat.zero_mul]; exact Sub.refl _) ?_
  rintro ⟨y, A1, c1⟩ hy
  simp only at hy ⊢
  rcases Nat.lt_or_ge y (cntF H) with h | h
  · refine z_gob
    refine lfv rfl rfl rfl (fun w _ => cnt_any W w (by omega)) ?_
    refine z_tas
    have hyW : (y + 1) * cntF W ≤ 16 * 16 := Nat.mul_le_mul (by omega) hcW
    rw [Nat.add_mul, Nat.one_mul] at hyW
    refine c_loop (X := Nat × Option Addr × Nat) (fun q => q.1 ≤ cntF W) (fun q => [(0, .int .i64 W), (5, .slice q.2.1 (placesTo W (y * cntF W + q.1)).length q.2.2), (6, .int .i64 y), (9, .int .i64 (cntF H : Nat)), (10, .int .i64 y), (14, .int .i64 (cntF W : Nat)), (15, .int .i64 q.1)])
      (fun q => [.row (.slice q.2.1 (placesTo W (y * cntF W + q.1)).length q.2.2) 132 2 (placesTo W (y * cntF W + q.1)).length (flat spotE (placesTo W (y * cntF W + q.1)))]) (fun q => cntF W - q.1) (0, A1, c1) (by simp) ⟨rfl, rfl, rfl, rfl, rfl, rfl, rfl, trivial⟩ (Sub.refl _) ?_
    rintro ⟨x, A2, c2⟩ hx
    simp only at hx ⊢
    have hpl := placesTo_len W (y * cntF W + x)
    rcases Nat.lt_or_ge x (cntF W) with h2 | h2
    · have hps := placesTo_succ W (y * cntF W + x)
      rw [(tXY h2).1, (tXY h2).2] at hps
      refine z_tas
      rename_i A3 c3
      rw [← hps]
      exact c_round (x + 1, A3, c3) (by show x + 1 ≤ _; omega) (by show _ - (x + 1) < _ - x; omega) ⟨rfl, rfl, rfl, rfl, rfl, rfl, by simp [look], trivial⟩ Sub.au
    · obtain rfl : x = cntF W := by omega
      refine z_tas
      exact c_round (y + 1, A2, c2) (by show y + 1 ≤ _; omega) (by show _ - (y + 1) < _ - y; omega) ⟨rfl, by simp only [Nat.add_mul, Nat.one_mul]; rfl, rfl, by simp [look], trivial⟩ (by simp only [Nat.add_mul, Nat.one_mul]; exact Sub.au)
  · obtain rfl : y = cntF H := by omega
    refine z_tas
    have e : nT W H = cntF H * cntF W := Nat.mul_comm _ _
    rw [e]
    exact j_out1 rfl rfl (Sub.refl _) ⟨_, _, rfl, rfl⟩
set_option maxHeartbeats 16000000 in
theorem head_any (W H : Nat) (w : World) (hm : W ≤ 256 ∧ H ≤ 256) :
    Does Try.prog 66 [.int .i64 W, .int .i64 H] [] w (fun v S' => v = .int .i64 (headN W H : Nat) ∧ S' = []) := by
  refine does_of Try.func66 rfl Try.ntmps66 rfl ⟨by simp, .nil⟩ (fun n => ?_)
  simp only [slots]
  have hn := nT_le hm
  have hcW := cnt_le hm.1
  have hcH := cnt_le hm.2
  have e : (6 * (cntF W : Int)) * (cntF H : Int) = ((6 * nT W H : Nat) : Int) := by unfold nT; push_cast; rw [Int.mul_assoc]
  refine z_tas
  refine lfv rfl rfl rfl (fun w _ => cnt_any W w (by omega)) ?_
  refine z_tas
  refine lfv rfl rfl rfl (fun w _ => cnt_any H w (by omega)) ?_
  refine z_tas
  refine j_out1 rfl rfl (.nil _) ⟨?_, rfl⟩
  rw [e]
  unfold headN
  congr 1
  omega
set_option maxHeartbeats 16000000 in
theorem header_any (W H cell : Nat) (A : Option Addr) (c m : Nat) (ox oy : Int) (w : World) (hm : W ≤ 256 ∧ H ≤ 256 ∧ cell ≤ 1000) (hox : InR .i32 ox) (hoy : InR .i32 oy) :
    Does Try.prog 65 [.agg #[.int .i64 W, .int .i64 H, .slice A m c, .int .i64 cell, .int .i32 ox, .int .i32 oy]] [] w (fun v S' => ∃ A' c', v = .slice A' (hdrB W H cell ox oy).length c' ∧ S' = [.row (.slice A' (hdrB W H cell ox oy).length c') 5 1 (hdrB W H cell ox oy).length (ints .u8 (hdrB W H cell ox oy))]) := by
  refine does_of Try.func65 rfl Try.ntmps65 rfl ⟨by simp, .nil⟩ (fun n => ?_)
  simp only [slots]
  refine z_tas
  refine lf rfl rfl rfl (S := []) (fun w hw ho => bput_any none 0 [] 1296978516 4 w ⟨Ro.nil _ _ _⟩ (by decide) (by decide) (by decide)) ?_
  rintro v S' ⟨A1, c1, rfl, rfl⟩
  refine z_tas
  refine c_drx _ [false, true, true, true, true, false, true, true, true, true, false, false] [0, 5, 10, 11] (Sub.refl _) rfl (by decide) (by decide +kernel) ?_
  refine z_gob
  refine lf rfl rfl rfl (S := []) (fun w hw ho => bput_any A1 c1 (bytesN 1296978516 4) W 2 w ⟨Ro.row hw (Split.nil _) (by refine z_hs)⟩ (by omega) (by decide) (by rw [bytesN_len]; decide)) ?_
  rintro v S' ⟨A2, c2, rfl, rfl⟩
  have hl2 := bytesN_len W 2
  have hl3 := bytesN_len H 2
  have hl4 := bytesN_len 1296978516 4
  refine z_gob
  refine lf rfl rfl rfl (S := []) (fun w hw ho => bput_any A2 c2 (bytesN 1296978516 4 ++ bytesN W 2) H 2 w ⟨Ro.row hw (Split.nil _) (by refine z_hs)⟩ (by omega) (by decide) (by rw [List.length_append]; omega)) ?_
  rintro v S' ⟨A3, c3, rfl, rfl⟩
  refine z_gob
  refine lf rfl rfl rfl (S := []) (fun w hw ho => bput_any A3 c3 (bytesN 1296978516 4 ++ bytesN W 2 ++ bytesN H 2) cell 2 w ⟨Ro.row hw (Split.nil _) (by refine z_hs)⟩ (by omega) (by decide) (by simp only [List.length_append]; omega)) ?_
  rintro v S' ⟨A4, c4, rfl, rfl⟩
  have hl5 := bytesN_len cell 2
  have hl6 := bytesN_len (u32N ox) 4
  refine z_tas
  have hu1 := u32N_lt ox
  have hu2 := u32N_lt oy
  refine c_drx _ [false, true, true, true, true, false, true, true, true, true, false, false] [0, 5, 10, 11] (Sub.refl _) rfl (by decide) (by decide +kernel) ?_
  refine z_gob
  refine lf rfl rfl rfl (S := []) (fun w hw ho => bput_any A4 c4 (bytesN 1296978516 4 ++ bytesN W 2 ++ bytesN H 2 ++ bytesN cell 2) (u32N ox) 4 w ⟨Ro.row hw (Split.nil _) (by refine z_hs)⟩ (by have := u32N_lt ox; omega) (by decide) (by simp only [List.length_append]; omega)) ?_
  rintro v S' ⟨A5, c5, rfl, rfl⟩
  refine z_gob
  refine lf rfl rfl rfl (S := []) (fun w hw ho => bput_any A5 c5 (bytesN 1296978516 4 ++ bytesN W 2 ++ bytesN H 2 ++ bytesN cell 2 ++ bytesN (u32N ox) 4) (u32N oy) 4 w ⟨Ro.row hw (Split.nil _) (by refine z_hs)⟩ (by have := u32N_lt oy; omega) (by decide) (by simp only [List.length_append]; omega)) ?_
  rintro v S' ⟨A6, c6, rfl, rfl⟩
  refine z_gob
  exact j_out1 rfl rfl (.cons (.here _ _) (.nil _)) ⟨_, _, rfl, rfl⟩
end Go.Proofs.Ytemmnpgebpffbaa
/- Package chart: Put; the reference's Put. -/
namespace Go.Proofs.Ytemmnpgebpffbaa
open Go.RowKit
theorem tXY_in {W H i : Nat} (hm : W ≤ 256 ∧ H ≤ 256) (hi : i < nT W H) : InR .i64 (tX W i) ∧ InR .i64 (tY W i) := by
  obtain ⟨h1, h2⟩ := tile_in hi
  have := cnt_le hm.1
  have := cnt_le hm.2
  unfold tX tY
  generalize i % cntF W = x at *
  generalize i / cntF W = y at *
  simp only [InR]
  omega
theorem chk_ok {W H cell : Nat} {z : List Int} (hW : 2 ≤ W ∧ W ≤ 256 ∧ 2 ≤ H ∧ H ≤ 256 ∧ 1 ≤ cell ∧ cell ≤ 1000) (hz : z.length = W * H) : chkC W H z cell = 0 := by
  have h : chkF W H z = 0 := by
    unfold chkF
    rw [if_neg (by omega), if_pos (by rw [hz]; push_cast; rfl)]
  unfold chkC
  rw [h, if_neg (by simp), if_neg (by omega)]
theorem tile_put {W H i : Nat} {z : List Int} (hi : i < nT W H) (hz : z.length = W * H) : putB (tilW W H i : Nat) (tilH W H i : Nat) (cutN W H z i) = some (rawB (tilW W H i) (cutN W H z i)) ∧ putC (tilW W H i : Nat) (tilH W H i : Nat) (cutN W H z i) = 0 := by
  have hb := tile_box hi
  have h := putB_ok (a := (tilW W H i : Nat)) (b := (tilH W H i : Nat)) (z := cutN W H z i) ⟨(rightB_iff _ _).2 (by omega), by rw [cutN_len hz]; push_cast; rfl⟩
  rw [Int.toNat_natCast] at h
  exact h
attribute [local irreducible] OJ J HdJ Code.wpIn wpListIn Oper.wpIn bodyPost CallsIn Does
set_option maxRecDepth 4000
set_option maxHeartbeats 16000000 in
theorem cput_bad (W H : Int) (A : Option Addr) (c : Nat) (z : List Int) (cell ox oy : Int) (w : World) (hc : chkC W H z cell ≠ 0) :
    Does Try.prog 41 [.agg #[.int .i64 W, .int .i64 H, .slice A z.length c, .int .i64 cell, .int .i32 ox, .int .i32 oy]] [] w (fun v S' => v = .tuple #[.slice none 0 0, .int .i64 (chkC W H z cell)] ∧ S' = []) := by
  refine does_of Try.func41 rfl Try.ntmps41 rfl ⟨by simp, .nil⟩ (fun n => ?_)
  simp only [slots]
  refine z_tas
  refine lfv rfl rfl rfl (fun w _ => chkc_any W H A c z cell ox oy w) ?_
  refine z_tas
  exact j_out2 rfl rfl rfl (.nil _) ⟨rfl, rfl⟩
theorem tilput_any (A : Option Addr) (c W H : Nat) (z : List Int) (i : Nat) (w : World) (hr : RoA w (blocks []) A (rawB (tilW W H i) (cutN W H z i)).length c 1 (ints .u8 (rawB (tilW W H i) (cutN W H z i)))) (hm : (rawB (tilW W H i) (cutN W H z i)).length < 1000000000) :
    Does Try.prog 71 [.slice A (rawB (tilW W H i) (cutN W H z i)).length c] [] w (fun v S' => ∃ A' c', v = .slice A' (tilB W H z i).length c' ∧ S' = [.row (.slice A' (tilB W H z i).length c') 5 1 (tilB W H z i).length (ints .u8 (tilB W H z i))]) := crcput_any A c _ w hr (raw_u8 _ _) hm
set_option maxHeartbeats 64000000 in
theorem cput_ok (W H cell : Nat) (A : Option Addr) (c : Nat) (z : List Int) (ox oy : Int) (w : World) (hr : RoA w (blocks []) A z.length c 1 (ints .i16 z)) (hW : 2 ≤ W ∧ W ≤ 256 ∧ 2 ≤ H ∧ H ≤ 256 ∧ 1 ≤ cell ∧ cell ≤ 1000) (hz : z.length = W * H) (hin : In16 z) (hox : InR .i32 ox) (hoy : InR .i32 oy) :
    Does Try.prog 41 [.agg #[.int .i64 W, .int .i64 H, .slice A z.length c, .int .i64 cell, .int .i32 ox, .int .i32 oy]] [] w (fun v S' => ∃ A' c', v = .tuple #[.slice A' (chartB W H cell ox oy z).length c', .int .i64 0] ∧ S' = [.row (.slice A' (chartB W H cell ox oy z).length c') 5 1 (chartB W H cell ox oy z).length (ints .u8 (chartB W H cell ox oy z))]) := by
  have hchk := chk_ok hW hz
  have hn := nT_le (W := W) (H := H) (by omega)
  have hhn : headN W H ≤ 2000 := by unfold headN; omega
  have hpl := placesTo_len W (nT W H)
  refine does_of Try.func41 rfl Try.ntmps41 rfl ⟨by simp, .nil⟩ (fun n => ?_)
  simp only [slots]
  refine z_tas
  refine lfv rfl rfl rfl (fun w _ => chkc_any W H A c z cell ox oy w) ?_
  rw [hchk]
  refine z_tas
  rename_i b1
  refine lf rfl rfl rfl (S := []) (fun w hw ho => header_any W H cell A c z.length ox oy w (by omega) hox hoy) ?_
  rintro v S' ⟨Ah, ch, rfl, rfl⟩
  refine z_tas
  refine lfv rfl rfl rfl (fun w _ => head_any W H w (by omega)) ?_
  refine z_tas
  refine lf rfl rfl rfl (S := []) (fun w hw ho => places_any W H w (by omega)) ?_
  rintro v S' ⟨Ap, cp, rfl, rfl⟩
  refine j_nil (e := 5) (size := 1) ?_
  refine z_tas
  refine c_loop (X := Nat × (Option Addr × Nat) × (Option Addr × Nat)) (fun q => q.1 ≤ nT W H)
    (fun q => [(1, .pointer (some ⟨b1, 0, none⟩)), (5, .slice q.2.1.1 (dirTo W H cell ox oy z q.1).length q.2.1.2), (6, .slice q.2.2.1 (bodyTo W H z q.1).length q.2.2.2), (7, .int .i64 (headN W H : Nat)), (36, .slice Ap (placesTo W (nT W H)).length cp), (37, .int .i64 (placesTo W (nT W H)).length), (38, .int .i64 q.1)])
    (fun q => [.row (.slice q.2.1.1 (dirTo W H cell ox oy z q.1).length q.2.1.2) 5 1 (dirTo W H cell ox oy z q.1).length (ints .u8 (dirTo W H cell ox oy z q.1)), .row (.slice q.2.2.1 (bodyTo W H z q.1).length q.2.2.2) 5 1 (bodyTo W H z q.1).length (ints .u8 (bodyTo W H z q.1)),
      .row (.slice Ap (placesTo W (nT W H)).length cp) 132 2 (placesTo W (nT W H)).length (flat spotE (placesTo W (nT W H))), .blk b1 37 [.int .i64 W, .int .i64 H, .slice A z.length c, .int .i64 cell, .int .i32 ox, .int .i32 oy]]) (fun q => nT W H - q.1) (0, (Ah, ch), (none, 0)) (by simp) ⟨rfl, rfl, rfl, rfl, rfl, rfl, rfl, trivial⟩ ?_ ?_
  · exact (Sub.cons (Has.there _ (Has.there _ (Has.here _ _))) (Sub.cons (Has.here _ _) (Sub.cons (Has.here _ _) (Sub.cons (Has.here _ _) (Sub.nil _)))))
  rintro ⟨i, ⟨Ah, ch⟩, ⟨Ab, cb⟩⟩ hi
  simp only at hi ⊢
  have hdl := dirTo_len W H cell ox oy z i
  have hbl := bodyTo_len hz i
  rcases Nat.lt_or_ge i (nT W H) with h | h
  · have hpg := placesTo_get W _ i h
    have htl := tilB_len (i := i) hz
    obtain ⟨hX, hY⟩ := tXY_in (by omega) h
    obtain ⟨hp1, hp2⟩ := tile_put h hz
    have hcl := cutN_le (i := i) hz
    have hci := in16_cut hin W H i
    have hrl := raw_len (tilW W H i) _ hcl
    have hdu := dirTo_u8 W H cell ox oy z i
    refine z_tas
    simp only [hpg]
    refine lfv rfl rfl rfl (fun w _ => box_any W H (tX W i) (tY W i) w hX hY (by omega)) ?_
    refine z_tas
    refine lf rfl rfl rfl (S := []) (fun w hw ho => cut_any W H A c z (tX W i) (tY W i) w ⟨hr.h.go hw (Split.nil _)⟩ hX hY (by omega) hz) ?_
    rintro v S' ⟨A2, c2, rfl, rfl⟩
    refine z_tas
    refine lf rfl rfl rfl (S := []) (fun w hw ho => put8_any A2 c2 (cutN W H z i) (tilW W H i : Nat) (tilH W H i : Nat) w ⟨Ro.row hw (Split.nil _) (by refine z_hs)⟩ hci (by omega)) ?_
    rintro v S' ⟨A3, c3, rfl, rfl⟩
    rw [hp1, hp2, Option.getD_some]
    refine z_tas
    refine lf rfl rfl rfl (S := []) (fun w hw ho => tilput_any A3 c3 W H z i w ⟨Ro.row hw (Split.nil _) (by refine z_hs)⟩ (by omega)) ?_
    rintro v S' ⟨A4, c4, rfl, rfl⟩
    generalize htb : tilB W H z i = tb at *
    refine z_tas
    refine j_set 75 _ rfl (v' := .int .u64 (headN W H + (bodyTo W H z i).length : Nat)) (by push_cast; rfl) ?_
    refine lf rfl rfl rfl (S := []) (fun w hw ho => bput_any Ah ch (dirTo W H cell ox oy z i) (headN W H + (bodyTo W H z i).length) 4 w ⟨Ro.row hw (Split.nil _) (by refine z_hs)⟩ (by unfold headN; omega) (by omega) (by omega)) ?_
    rintro v S' ⟨A5, c5, rfl, rfl⟩
    have hl5 := bytesN_len (headN W H + (bodyTo W H z i).length) 4
    refine z_tas
    refine lf rfl rfl rfl (S := []) (fun w hw ho => bput_any A5 c5 (dirTo W H cell ox oy z i ++ bytesN (headN W H + (bodyTo W H z i).length) 4) tb.length 2 w ⟨Ro.row hw (Split.nil _) (by refine z_hs)⟩ (by omega) (by omega) (by rw [List.length_append]; omega)) ?_
    rintro v S' ⟨A6, c6, rfl, rfl⟩
    refine z_tas
    rename_i A7 c7
    subst htb
    exact c_round (i + 1, (A6, c6), (A7, c7)) (by show i + 1 ≤ _; omega) (by show _ - (i + 1) < _ - i; omega) ⟨rfl, rfl, rfl, rfl, rfl, rfl, by simp [look], trivial⟩ (by simp only [dirTo, bodyTo]; exact Sub.au)
  · obtain rfl : i = nT W H := by omega
    have hdu := dirTo_u8 W H cell ox oy z (nT W H)
    have hcl := crcP_len (dirTo W H cell ox oy z (nT W H))
    refine z_tas
    refine lf rfl rfl rfl (S := []) (fun w hw ho => crcput_any Ah ch (dirTo W H cell ox oy z (nT W H)) w ⟨Ro.row hw (Split.nil _) (by refine z_hs)⟩ hdu (by omega)) ?_
    rintro v S' ⟨A4, c4, rfl, rfl⟩
    refine z_tas
    exact j_out2 rfl rfl rfl (.cons (.here _ _) (.nil _)) ⟨_, _, rfl, rfl⟩
end Go.Proofs.Ytemmnpgebpffbaa
/- Package chart: Open, Tile. -/
namespace Go.Proofs.Ytemmnpgebpffbaa
open Go.RowKit
def i32N (x : Nat) : Int := IntKind.i32.wrap (x : Int)
/-- Where tiles begin, and how long they are. -/
def atL (ys : List Int) (k : Nat) : List Int := (List.range k).map fun i => ((atY ys i : Nat) : Int)
def szL (ys : List Int) (k : Nat) : List Int := (List.range k).map fun i => ((szY ys i : Nat) : Int)
theorem atL_len (ys : List Int) (k : Nat) : (atL ys k).length = k := by simp [atL]
theorem szL_len (ys : List Int) (k : Nat) : (szL ys k).length = k := by simp [szL]
theorem atL_succ (ys : List Int) (k : Nat) : atL ys (k + 1) = atL ys k ++ [((atY ys k : Nat) : Int)] := by simp [atL, List.range_succ]
theorem szL_succ (ys : List Int) (k : Nat) : szL ys (k + 1) = szL ys k ++ [((szY ys k : Nat) : Int)] := by simp [szL, List.range_succ]
theorem atL_get (ys : List Int) (k i : Nat) (h : i < k) : (atL ys k).getD i 0 = ((atY ys i : Nat) : Int) := by simp [atL, List.getD_eq_getElem?_getD, h]
theorem szL_get (ys : List Int) (k i : Nat) (h : i < k) : (szL ys k).getD i 0 = ((szY ys i : Nat) : Int) := by simp [szL, List.getD_eq_getElem?_getD, h]
/-- What Open comes to. -/
def OpenR (ys : List Int) (v : Value) (S' : List HE) : Prop :=
  (openC ys = 0 ∧ ∃ A1 c1 A2 c2, v = .tuple #[.agg #[.int .i64 (wY ys : Nat), .int .i64 (hY ys : Nat), .slice none 0 0, .int .i64 (cellY ys : Nat), .int .i32 (i32N (leY ys 10 4)), .int .i32 (i32N (leY ys 14 4)), .slice A1 (atL ys (nY ys)).length c1, .slice A2 (szL ys (nY ys)).length c2], .int .i64 0] ∧
    S' = [.row (.slice A1 (atL ys (nY ys)).length c1) 3 1 (atL ys (nY ys)).length (ints .i64 (atL ys (nY ys))), .row (.slice A2 (szL ys (nY ys)).length c2) 3 1 (szL ys (nY ys)).length (ints .i64 (szL ys (nY ys)))]) ∨
  (openC ys ≠ 0 ∧ v = .tuple #[.agg #[.int .i64 0, .int .i64 0, .slice none 0 0, .int .i64 0, .int .i32 0, .int .i32 0, .slice none 0 0, .slice none 0 0], .int .i64 (openC ys)] ∧ S' = [])
attribute [local irreducible] OJ J HdJ Code.wpIn wpListIn Oper.wpIn bodyPost CallsIn Does
set_option maxRecDepth 4000
set_option maxHeartbeats 64000000 in
theorem open_any (A : Option Addr) (c : Nat) (ys : List Int) (w : World) (hr : RoA w (blocks []) A ys.length c 1 (ints .u8 ys)) (hu : U8s ys) (hm : ys.length < 100000000) :
    Does Try.prog 74 [.slice A ys.length c] [] w (OpenR ys) := by
  refine does_of Try.func74 rfl Try.ntmps74 rfl ⟨by simp, .nil⟩ (fun n => ?_)
  simp only [slots]
  have hcl : ys.length ≤ c := by obtain ⟨_, _, e, q1, -⟩ := hr.h; injection e with _ _ e; omega
  rcases Nat.lt_or_ge ys.length 18 with h18 | h18
  · have hoc : openC ys = 5 := if_pos h18
    refine z_tas
    refine z_ro
    exact .inr ⟨by omega, by rw [hoc]; rfl, rfl⟩
  have hl0 := leY_lt hu (a := 0) (n := 4) (by omega)
  have hl4 := leY_lt hu (a := 4) (n := 2) (by omega)
  have hl6 := leY_lt hu (a := 6) (n := 2) (by omega)
  have hl8 := leY_lt hu (a := 8) (n := 2) (by omega)
  have hl10 := leY_lt hu (a := 10) (n := 4) (by omega)
  have hl14 := leY_lt hu (a := 14) (n := 4) (by omega)
  refine z_tas
  refine lfv rfl rfl rfl (fun w hw => chnum_any A c ys 0 4 w ⟨hr.h.go hw (Split.nil _)⟩ hu (by omega) (by omega) (by omega)) ?_
  by_cases hmg : leY ys 0 4 = 1296978516
  rotate_left
  · have hoc : openC ys = 3 := by unfold openC; rw [if_neg (by omega), if_pos hmg]
    refine z_tas
    refine z_ro
    exact .inr ⟨by omega, by rw [hoc]; rfl, rfl⟩
  rw [hmg]
  refine z_tas
  refine lfv rfl rfl rfl (fun w hw => chnum_any A c ys 4 2 w ⟨hr.h.go hw (Split.nil _)⟩ hu (by omega) (by omega) (by omega)) ?_
  refine z_tas
  refine lfv rfl rfl rfl (fun w hw => chnum_any A c ys 6 2 w ⟨hr.h.go hw (Split.nil _)⟩ hu (by omega) (by omega) (by omega)) ?_
  refine z_tas
  refine lfv rfl rfl rfl (fun w hw => chnum_any A c ys 8 2 w ⟨hr.h.go hw (Split.nil _)⟩ hu (by omega) (by omega) (by omega)) ?_
  refine z_tas
  refine lfv rfl rfl rfl (fun w hw => chnum_any A c ys 10 4 w ⟨hr.h.go hw (Split.nil _)⟩ hu (by omega) (by omega) (by omega)) ?_
  refine z_tas
  refine lfv rfl rfl rfl (fun w hw => chnum_any A c ys 14 4 w ⟨hr.h.go hw (Split.nil _)⟩ hu (by omega) (by omega) (by omega)) ?_
  have ew : leY ys 4 2 = wY ys := rfl
  have eh : leY ys 6 2 = hY ys := rfl
  have ec : leY ys 8 2 = cellY ys := rfl
  rw [ew] at hl4
  rw [eh] at hl6
  rw [ec] at hl8
  rw [ew, eh, ec]
  generalize hox : leY ys 10 4 = ox at *
  generalize hoy : leY ys 14 4 = oy at *
  by_cases hrg : rangeY ys
  rotate_left
  · have hoc : openC ys = 2 := by unfold openC; rw [if_neg (by omega), if_neg (by omega), if_pos hrg]
    unfold rangeY at hrg
    generalize wY ys = W at *
    generalize hY ys = H at *
    generalize cellY ys = cell at *
    refine z_tas
    all_goals first
      | (refine z_ro; exact .inr ⟨by omega, by rw [hoc]; rfl, rfl⟩)
      | (exfalso; omega)
  have hrg0 := hrg
  unfold rangeY at hrg
  have hn : nY ys ≤ 256 := nT_le (by omega)
  have hhn : headN (wY ys) (hY ys) = 22 + 6 * nY ys := rfl
  have hatd : ∀ i, atY ys i = match i with | 0 => headN (wY ys) (hY ys) | i + 1 => atY ys i + szY ys i := fun i => by cases i <;> rfl
  have hocd : openC ys = if ys.length < headN (wY ys) (hY ys) then 5 else if ¬ crcOk (ys.take (headN (wY ys) (hY ys))) then 4 else if ¬ (∀ i, i < nY ys → fromY ys i = atY ys i) then 2 else if atY ys (nY ys) ≠ ys.length then 5 else 0 := by
    conv => lhs; unfold openC
    rw [if_neg (by omega), if_neg (by omega), if_neg (fun e => e hrg0)]
  have e1 : IntKind.i32.wrap (ox : Int) = i32N ox := rfl
  have e2 : IntKind.i32.wrap (oy : Int) = i32N oy := rfl
  generalize hn0 : headN (wY ys) (hY ys) = hd at *
  refine z_tas
  rw [e1, e2]
  refine lfv rfl rfl rfl (fun w _ => head_any (wY ys) (hY ys) w (by omega)) ?_
  rw [hn0]
  rcases Nat.lt_or_ge ys.length hd with hlt | hge
  · have hoc : openC ys = 5 := by rw [hocd, if_pos hlt]
    refine z_tas
    refine z_ro
    exact .inr ⟨by omega, by rw [hoc]; rfl, rfl⟩
  rw [if_neg (by omega)] at hocd
  have htl : (ys.take hd).length = hd := by rw [List.length_take]; omega
  have htu : U8s (ys.take hd) := fun x hx => hu x (List.mem_of_mem_take hx)
  refine j_sub 0 hd hr (by omega) fun hr0 => ?_
  rw [List.drop_zero, Nat.sub_zero] at hr0
  refine z_tas
  refine lf rfl rfl rfl (S := []) (fun w hw ho => crcget_any _ _ hd (ys.take hd) w htl ⟨hr0.h.go hw (Split.nil _)⟩ htu (by omega)) ?_
  rintro v S' hcg
  rcases hcg with ⟨hok, Ag, cg, rfl, rfl⟩ | ⟨hno, rfl, rfl⟩
  rotate_left
  · have hoc : openC ys = 4 := by rw [hocd, if_pos hno]
    refine z_tas
    refine z_ro
    exact .inr ⟨by omega, by rw [hoc]; rfl, rfl⟩
  rw [if_neg (fun e => e hok)] at hocd
  refine z_tas
  rename_i b2 _ b4 _ _ _ _ _ _ _
  refine lf rfl rfl rfl (S := []) (fun w hw ho => places_any (wY ys) (hY ys) w (by omega)) ?_
  rintro v S' ⟨Ap, cp, rfl, rfl⟩
  have hpl := placesTo_len (wY ys) (nY ys)
  have hnn : nT (wY ys) (hY ys) = nY ys := rfl
  rw [hnn]
  refine j_nil (e := 3) (size := 1) ?_
  refine j_nil (e := 3) (size := 1) ?_
  refine z_tas
  refine j_set 94 _ rfl (v' := .int .i64 (nY ys : Nat)) (by rw [hpl]) ?_
  refine j_set 10 _ rfl (v' := .int .i64 (atY ys 0 : Nat)) (by rw [atY, hn0]) ?_
  refine c_loop (X := Nat × (Option Addr × Nat) × (Option Addr × Nat)) (fun q => q.1 ≤ nY ys ∧ ∀ j, j < q.1 → fromY ys j = atY ys j)
    (fun q => [(0, .slice A ys.length c), (2, .pointer (some ⟨b2, 0, none⟩)), (4, .pointer (some ⟨b4, 0, none⟩)), (10, .int .i64 (atY ys q.1 : Nat)), (94, .int .i64 (nY ys : Nat)), (95, .int .i64 q.1)])
    (fun q => [.blk b4 142 [.int .i64 (wY ys : Nat), .int .i64 (hY ys : Nat), .slice none 0 0, .int .i64 (cellY ys : Nat), .int .i32 (i32N ox), .int .i32 (i32N oy), .slice q.2.1.1 (atL ys q.1).length q.2.1.2, .slice q.2.2.1 (szL ys q.1).length q.2.2.2], .row (.slice q.2.1.1 (atL ys q.1).length q.2.1.2) 3 1 (atL ys q.1).length (ints .i64 (atL ys q.1)), .row (.slice q.2.2.1 (szL ys q.1).length q.2.2.2) 3 1 (szL ys q.1).length (ints .i64 (szL ys q.1)), .blk b2 142 [.int .i64 0, .int .i64 0, .slice none 0 0, .int .i64 0, .int .i32 0, .int .i32 0, .slice none 0 0, .slice none 0 0]]) (fun q => nY ys - q.1) (0, (none, 0), (none, 0)) ⟨by simp, fun j hj => by omega⟩ ?_ ?_ ?_
  · exact ⟨rfl, rfl, rfl, rfl, rfl, rfl, trivial⟩
  · exact (Sub.cons (Has.there _ (Has.there _ (Has.there _ (Has.there _ (Has.here _ _))))) (Sub.cons (Has.here _ _) (Sub.cons (Has.here _ _) (Sub.cons (Has.there _ (Has.there _ (Has.here _ _))) (Sub.nil _)))))
  rintro ⟨i, ⟨A1, c1⟩, ⟨A2, c2⟩⟩ ⟨hi, hfr⟩
  simp only at hi hfr ⊢
  have hal := atL_len ys i
  have hsl := szL_len ys i
  rcases Nat.lt_or_ge i (nY ys) with h | h
  · have hlf := leY_lt hu (a := 18 + 6 * i) (n := 4) (by omega)
    have hls := leY_lt hu (a := 18 + 6 * i + 4) (n := 2) (by omega)
    refine z_tas
    refine j_set 101 _ rfl (v' := .int .i64 (18 + 6 * i : Nat)) (by push_cast; rfl) ?_
    refine lfv rfl rfl rfl (fun w hw => chnum_any A c ys (18 + 6 * i) 4 w ⟨hr.h.go hw (Split.nil _)⟩ hu (by omega) (by omega) (by omega)) ?_
    have ef : leY ys (18 + 6 * i) 4 = fromY ys i := rfl
    rw [ef] at hlf ⊢
    refine z_tas
    refine j_set 107 _ rfl (v' := .int .i64 (18 + 6 * i + 4 : Nat)) (by push_cast; rfl) ?_
    refine lfv rfl rfl rfl (fun w hw => chnum_any A c ys (18 + 6 * i + 4) 2 w ⟨hr.h.go hw (Split.nil _)⟩ hu (by omega) (by omega) (by omega)) ?_
    have es : leY ys (18 + 6 * i + 4) 2 = szY ys i := rfl
    rw [es] at hls ⊢
    by_cases hfe : fromY ys i = atY ys i
    rotate_left
    · have hoc : openC ys = 2 := by rw [hocd, if_pos (fun e => hfe (e i h))]
      refine z_tas
      refine z_ro
      exact .inr ⟨by omega, by rw [hoc]; rfl, rfl⟩
    have hps := atL_succ ys i
    have hpz := szL_succ ys i
    have hnx : atY ys (i + 1) = atY ys i + szY ys i := rfl
    rw [hfe]
    rw [hfe] at hlf
    have hbig : atY ys i ≤ 4294967296 := by omega
    refine z_gon
    refine c_drx [.blk b4 142 [.int .i64 (wY ys : Nat), .int .i64 (hY ys : Nat), .slice none 0 0, .int .i64 (cellY ys : Nat), .int .i32 (i32N ox), .int .i32 (i32N oy), .slice A1 (atL ys i).length c1, .slice A2 (szL ys i).length c2]] [true, true, true, false, false, true, true, false, false, false, true, false, false, false] [3, 4, 7, 8, 9, 11, 12, 13] Sub.au rfl (by decide) (by decide +kernel) ?_
    refine z_gob
    all_goals first
      | (rename_i A3 c3 A4 c4; exact c_round (i + 1, (A3, c3), (A4, c4)) ⟨by show i + 1 ≤ _; omega, fun j hj => by
          rcases Nat.lt_or_ge j i with h1 | h1
          · exact hfr j h1
          · rw [show j = i by omega]; exact hfe⟩ (by show _ - (i + 1) < _ - i; omega) ⟨rfl, rfl, rfl, by simp only [hnx]; rfl, rfl, by simp [look], trivial⟩ (by simp only [hps, hpz]; exact Sub.au))
      | (rename_i A3 c3 _ A4 c4; exact c_round (i + 1, (A3, c3), (A4, c4)) ⟨by show i + 1 ≤ _; omega, fun j hj => by
          rcases Nat.lt_or_ge j i with h1 | h1
          · exact hfr j h1
          · rw [show j = i by omega]; exact hfe⟩ (by show _ - (i + 1) < _ - i; omega) ⟨rfl, rfl, rfl, by simp only [hnx]; rfl, rfl, by simp [look], trivial⟩ (by simp only [hps, hpz]; exact Sub.au))
  · obtain rfl : i = nY ys := by omega
    have hfr2 : ∀ j, j < nY ys → fromY ys j = atY ys j := hfr
    rw [if_neg (fun e => e hfr2)] at hocd
    by_cases hend : atY ys (nY ys) = ys.length
    · rw [if_neg (fun e => e hend)] at hocd
      refine z_gob
      refine j_outK (.cons (.there _ (.here _ _)) (.cons (.there _ (.here _ _)) (.nil _))) ?_
      refine z_rk
      trace_state
      refine .inl ⟨hocd, _, _, _, _, ?_, rfl⟩
      rw [hox, hoy]
      rfl
    · rw [if_pos hend] at hocd
      refine z_gob
      refine z_ro
      exact .inr ⟨by omega, by rw [hocd]; rfl, rfl⟩
end Go.Proofs.Ytemmnpgebpffbaa
/- Package chart: Tile. -/
namespace Go.Proofs.Ytemmnpgebpffbaa
open Go.RowKit
/-- Heights that are a tile's bytes. -/
def TilOk (ys : List Int) (i : Nat) (zs : List Int) : Prop := zs.length = tilW (wY ys) (hY ys) i * tilH (wY ys) (hY ys) i ∧ In16 zs ∧ segT ys i = crcP (rawB (tilW (wY ys) (hY ys) i) zs)
/-- Why bytes are no tile. -/
def TilC (ys : List Int) (i : Nat) (code : Int) : Prop := (code = 4 ∧ ¬ crcOk (segT ys i)) ∨ (crcOk (segT ys i) ∧ ((code = 3 ∧ ¬ Rowed (tilW (wY ys) (hY ys) i * tilH (wY ys) (hY ys) i) ((segT ys i).take ((segT ys i).length - 4))) ∨ (code = 2 ∧ Rowed (tilW (wY ys) (hY ys) i * tilH (wY ys) (hY ys) i) ((segT ys i).take ((segT ys i).length - 4)))))
theorem TilC.ne {ys : List Int} {i : Nat} {code : Int} (h : TilC ys i code) : code ≠ 0 := by rcases h with ⟨rfl, -⟩ | ⟨-, ⟨rfl, -⟩ | ⟨rfl, -⟩⟩ <;> decide
theorem TilC.one {ys : List Int} {i : Nat} {a b : Int} (h : TilC ys i a) (g : TilC ys i b) : a = b := by
  rcases h with ⟨rfl, h1⟩ | ⟨h1, ⟨rfl, h2⟩ | ⟨rfl, h2⟩⟩ <;> rcases g with ⟨rfl, g1⟩ | ⟨g1, ⟨rfl, g2⟩ | ⟨rfl, g2⟩⟩ <;> first | rfl | contradiction
def TileR (ys : List Int) (i : Nat) (v : Value) (S' : List HE) : Prop := ∃ (zs : List Int) (A : Option Addr) (c : Nat) (code : Int) (T : List HE), v = .tuple #[.slice A zs.length c, .int .i64 code] ∧ S' = .row (.slice A zs.length c) 53 1 zs.length (ints .i16 zs) :: T ∧ ((code = 0 ∧ TilOk ys i zs) ∨ (TilC ys i code ∧ zs = [] ∧ ∀ z, ¬ TilOk ys i z))
abbrev dirV (ys : List Int) (A1 : Option Addr) (c1 : Nat) (A2 : Option Addr) (c2 : Nat) : Value := .agg #[.int .i64 (wY ys : Nat), .int .i64 (hY ys : Nat), .slice none 0 0, .int .i64 (cellY ys : Nat), .int .i32 (i32N (leY ys 10 4)), .int .i32 (i32N (leY ys 14 4)), .slice A1 (atL ys (nY ys)).length c1, .slice A2 (szL ys (nY ys)).length c2]
theorem crcP_take (ys : List Int) : (crcP ys).take ((crcP ys).length - 4) = ys := by
  rw [crcP_len, Nat.add_sub_cancel]
  unfold crcP
  rw [List.take_left]
attribute [local irreducible] OJ J HdJ Code.wpIn wpListIn Oper.wpIn bodyPost CallsIn Does
set_option maxRecDepth 4000
set_option maxHeartbeats 16000000 in
theorem tile_none (A : Option Addr) (c : Nat) (ys : List Int) (A1 A2 : Option Addr) (c1 c2 : Nat) (i : Int) (w : World) (hi : i < 0 ∨ nY ys ≤ i) :
    Does Try.prog 92 [.slice A ys.length c, dirV ys A1 c1 A2 c2, .int .i64 i] [] w (fun v S' => v = .tuple #[.slice none 0 0, .int .i64 7] ∧ S' = []) := by
  have hal := atL_len ys (nY ys)
  refine does_of Try.func92 rfl Try.ntmps92 rfl ⟨by simp, .nil⟩ (fun n => ?_)
  simp only [slots]
  refine z_gob
  all_goals exact j_out2 rfl rfl rfl (.nil _) ⟨rfl, rfl⟩
set_option maxHeartbeats 64000000 in
theorem ctile_any (A : Option Addr) (c : Nat) (ys : List Int) (A1 A2 : Option Addr) (c1 c2 : Nat) (i : Nat) (w : World) (hr : RoA w (blocks []) A ys.length c 1 (ints .u8 ys)) (h1 : RoA w (blocks []) A1 (atL ys (nY ys)).length c1 1 (ints .i64 (atL ys (nY ys)))) (h2 : RoA w (blocks []) A2 (szL ys (nY ys)).length c2 1 (ints .i64 (szL ys (nY ys)))) (hu : U8s ys) (hm : ys.length < 100000000) (hO : Opens ys) (hi : i < nY ys) :
    Does Try.prog 92 [.slice A ys.length c, dirV ys A1 c1 A2 c2, .int .i64 i] [] w (TileR ys i) := by
  have hal := atL_len ys (nY ys)
  have hsl := szL_len ys (nY ys)
  have hrg := hO.rng
  have hin := hO.in_ hi
  have hatg := atL_get ys _ i hi
  have hszg := szL_get ys _ i hi
  unfold rangeY at hrg
  have hn : nY ys ≤ 256 := nT_le (by omega)
  have hcl : ys.length ≤ c := by obtain ⟨_, _, e, q1, -⟩ := hr.h; injection e with _ _ e; omega
  have hpg := placesTo_get (wY ys) (nT (wY ys) (hY ys)) i hi
  have hpl := placesTo_len (wY ys) (nT (wY ys) (hY ys))
  have hi2 : i < nT (wY ys) (hY ys) := hi
  have hbx := tile_box (W := wY ys) (H := hY ys) hi
  obtain ⟨hX, hY'⟩ := tXY_in (W := wY ys) (H := hY ys) (i := i) (by omega) hi
  refine does_of Try.func92 rfl Try.ntmps92 rfl ⟨by simp, .nil⟩ (fun n => ?_)
  simp only [slots]
  refine z_tas
  refine c_drv _ (0 :: 1 :: 2 :: 3 :: 4 :: 5 :: 6 :: 7 :: 8 :: 9 :: 10 :: 11 :: 12 :: 13 :: 14 :: 15 :: 16 :: 17 :: 18 :: 19 :: 20 :: 21 :: 22 :: 23 :: 24 :: 25 :: 26 :: 27 :: 28 :: 29 :: []) (Sub.refl _) (by decide +kernel) (by decide) (by decide +kernel) (by decide +kernel) (by decide +kernel) ?_; intro _
  refine z_gov
  refine lf rfl rfl rfl (S := []) (fun w hw ho => places_any (wY ys) (hY ys) w (by omega)) ?_
  rintro v S' ⟨Ap, cp, rfl, rfl⟩
  refine z_gov
  refine z_gov
  simp only [hpg]
  refine lfv rfl rfl rfl (fun w _ => box_any (wY ys) (hY ys) (tX (wY ys) i) (tY (wY ys) i) w hX hY' (by omega)) ?_
  obtain ⟨b1, o1, rfl, hA1⟩ := h1.at_ (by omega : 0 < (atL ys (nY ys)).length)
  obtain ⟨b2, o2, rfl, hA2⟩ := h2.at_ (by omega : 0 < (szL ys (nY ys)).length)
  refine z_gov
  refine c_drv _ (0 :: 1 :: 2 :: 3 :: 4 :: 5 :: 6 :: 7 :: 8 :: 9 :: 10 :: 11 :: 12 :: 13 :: 14 :: 15 :: 16 :: 17 :: 18 :: 19 :: 20 :: 21 :: 22 :: 23 :: []) (Sub.refl _) (by decide +kernel) (by decide) (by decide +kernel) (by decide +kernel) (by decide +kernel) ?_; intro _
  refine z_gov
  refine j_set 55 _ rfl (v' := .int .i64 (atY ys i : Nat)) (by rw [hatg]) ?_
  refine j_set 66 _ rfl (v' := .int .i64 (atY ys i + szY ys i : Nat)) (by rw [hatg, hszg]; push_cast; rfl) ?_
  refine j_sub (atY ys i) (atY ys i + szY ys i) hr (by omega) fun hr0 => ?_
  rw [Nat.add_sub_cancel_left] at hr0
  refine z_gov
  rw [Nat.add_sub_cancel_left]
  have hgl := seg_len hin
  have hgu := seg_u8 hu (atY ys i) (szY ys i)
  refine lf rfl rfl rfl (S := []) (fun w hw ho => crcget_any _ _ (szY ys i) (segT ys i) w hgl ⟨hr0.h.go hw (Split.nil _)⟩ hgu (by omega)) ?_
  rintro v S' hcg
  have hgl2 : (segT ys i).length = szY ys i := hgl
  rcases hcg with ⟨hok, Ag, cg, rfl, rfl⟩ | ⟨hno, rfl, rfl⟩
  rotate_left
  · refine z_gov
    refine j_nil (e := 53) (size := 1) ?_
    exact j_out2 rfl rfl rfl (.cons (.here _ _) (.nil _)) ⟨[], none, 0, 4, [], rfl, rfl, .inr ⟨.inl ⟨rfl, hno⟩, rfl, fun z hz => hno (by rw [hz.2.2]; exact crcOk_P _)⟩⟩
  have hbu : U8s ((segT ys i).take (szY ys i - 4)) := fun x hx => hgu x (List.mem_of_mem_take hx)
  have hbl : ((segT ys i).take (szY ys i - 4)).length ≤ szY ys i := by rw [List.length_take]; omega
  have hsl2 := leY_lt hu (a := 18 + 6 * i + 4) (n := 2) (by have := hO.head; unfold headN at this; omega)
  have hsz2 : szY ys i < 65536 := hsl2
  have heq := crcOk_eq hok
  rw [hgl2] at heq
  have hnone : ∀ z, TilOk ys i z → pack (rowB (deltas z (tilW (wY ys) (hY ys) i))) = (segT ys i).take (szY ys i - 4) := by
    intro z hz
    have h3 := crcP_take (rawB (tilW (wY ys) (hY ys) i) z)
    rw [← hz.2.2, hgl2] at h3
    exact h3.symm
  refine z_gov
  refine lf rfl rfl rfl (S := []) (fun w hw ho => get8_any Ag cg ((segT ys i).take (szY ys i - 4)) (tilW (wY ys) (hY ys) i) (tilH (wY ys) (hY ys) i) w ⟨Ro.row hw (Split.nil _) (by refine z_hs)⟩ hbu (by omega) (by omega)) ?_
  rintro v S' ⟨zs, Az, cz, code, T, rfl, rfl, hz⟩
  refine j_perm (H' := [.row (.slice Az zs.length cz) 53 1 zs.length (ints .i16 zs)]) (.cons (.here _ _) (.nil _)) ?_
  refine z_gob
  refine j_out2 rfl rfl rfl (Sub.refl _) ⟨zs, Az, cz, code, [], rfl, rfl, ?_⟩
  rcases hz with ⟨rfl, g1, g2, g3⟩ | ⟨hcode, rfl, hno⟩
  · exact .inl ⟨rfl, g1, g2, by rw [heq]; unfold rawB; rw [g3]⟩
  · refine .inr ⟨.inr ⟨hok, ?_⟩, rfl, fun z hz => hno z hz.1 hz.2.1 (hnone z hz)⟩
    rw [hgl2]
    exact hcode
end Go.Proofs.Ytemmnpgebpffbaa
