import Derived.RangeFuncRecord
import Derived.Test.YtemmnpgebpffbaaGreatMG02
set_option linter.unusedVariables false
set_option linter.unusedSimpArgs false
/- The engine: steps that are found by instances. -/
namespace Go.Proofs.YtemmnpgebpffbaaGreat
open Go.RowKit

/-- Element number q of a list is v. -/
class Get (l : List Value) (q : Nat) (v : outParam Value) : Prop where h : l[q]? = some v
instance (u : Value) (r : List Value) : Get (u :: r) 0 u := ⟨rfl⟩
instance (u : Value) (r : List Value) (q : Nat) (v : Value) [h : Get r q v] : Get (u :: r) (q + 1) v := ⟨by simpa using h.h⟩
class Tk (l : List Value) (s : Nat) (o : outParam (List Value)) : Prop where h : l.take s = o ∧ o.length = s
instance (l : List Value) : Tk l 0 [] := ⟨by simp⟩
instance (u : Value) (r : List Value) (s : Nat) (o : List Value) [h : Tk r s o] : Tk (u :: r) (s + 1) (u :: o) := ⟨by obtain ⟨h1, h2⟩ := h.h; simp [h1, h2]⟩
/-- The s elements from number q on. -/
class Cut (l : List Value) (q s : Nat) (o : outParam (List Value)) : Prop where h : (l.drop q).take s = o ∧ o.length = s
instance (l : List Value) (s : Nat) (o : List Value) [h : Tk l s o] : Cut l 0 s o := ⟨by simpa using h.h⟩
instance (u : Value) (r : List Value) (q s : Nat) (o : List Value) [h : Cut r q s o] : Cut (u :: r) (q + 1) s o := ⟨by simpa using h.h⟩
class SetAt (l : List Value) (q : Nat) (v : Value) (o : outParam (List Value)) : Prop where h : l.set q v = o ∧ q < l.length
instance (u : Value) (r : List Value) (v : Value) : SetAt (u :: r) 0 v (v :: r) := ⟨by simp⟩
instance (u : Value) (r : List Value) (q : Nat) (v : Value) (o : List Value) [h : SetAt r q v o] : SetAt (u :: r) (q + 1) v (u :: o) := ⟨by obtain ⟨h1, h2⟩ := h.h; simp [h1]; omega⟩
class NAdd (a b : Nat) (c : outParam Nat) : Prop where h : a + b = c
instance (priority := 10) (a b : Nat) : NAdd a b (a + b) := ⟨rfl⟩
instance (priority := 100) (a : Nat) : NAdd a 0 a := ⟨rfl⟩
instance (priority := 200) (b : Nat) : NAdd 0 b b := ⟨Nat.zero_add b⟩
class NMul (a b : Nat) (c : outParam Nat) : Prop where h : a * b = c
instance (priority := 10) (a b : Nat) : NMul a b (a * b) := ⟨rfl⟩
instance (priority := 100) (a : Nat) : NMul a 1 a := ⟨Nat.mul_one a⟩
instance (priority := 200) (b : Nat) : NMul 0 b 0 := ⟨Nat.zero_mul b⟩

class HasC (H : List HE) (x : HE) (R : outParam (List HE)) : Prop where h : Has H x R
instance (priority := 100) (x : HE) (r : List HE) : HasC (x :: r) x r := ⟨.here _ _⟩
instance (priority := 10) (x y : HE) (r R : List HE) [h : HasC r x R] : HasC (y :: r) x (y :: R) := ⟨.there y h.h⟩
class SubC (S H : List HE) : Prop where h : Sub S H
instance (H : List HE) : SubC [] H := ⟨.nil _⟩
instance (x : HE) (S H R : List HE) [h : HasC H x R] [k : SubC S R] : SubC (x :: S) H := ⟨.cons h.h k.h⟩
theorem Sub.au {S H : List HE} [h : SubC S H] : Sub S H := h.h
class SplitC (H S : List HE) (R : outParam (List HE)) : Prop where h : Split H S R
instance (H : List HE) : SplitC H [] H := ⟨.nil _⟩
instance (x : HE) (S H R T : List HE) [h : HasC H x R] [k : SplitC R S T] : SplitC H (x :: S) T := ⟨.cons h.h k.h⟩
theorem Split.au {H S R : List HE} [h : SplitC H S R] : Split H S R := h.h

/-- Block b is on the list, and the list with it turned. -/
class At (b : Nat) (H : List HE) (t : outParam TypeId) (cs : outParam (List Value)) (k : outParam (HE → List HE)) : Prop where h : ∃ R, Has H (.blk b t cs) R ∧ ∀ x, Sub (k x) (x :: R)
theorem Sub.keep {S H : List HE} (h : Sub S H) (y : HE) : Sub (y :: S) (y :: H) := .cons (.here y H) h
theorem Sub.of_perm_cons {S R : List HE} {x y : HE} (h : Sub S (x :: R)) : Sub (y :: S) (x :: y :: R) := by
  refine .cons (.there x (.here y R)) h
instance (priority := 100) (b : Nat) (t : TypeId) (cs : List Value) (r : List HE) : At b (.blk b t cs :: r) t cs (fun x => x :: r) := ⟨r, .here _ _, fun _ => Sub.refl _⟩
instance (priority := 10) (b : Nat) (y : HE) (r : List HE) (t : TypeId) (cs : List Value) (k : HE → List HE) [h : At b r t cs k] : At b (y :: r) t cs (fun x => y :: k x) :=
  ⟨let ⟨R, h1, h2⟩ := h.h; ⟨y :: R, .there y h1, fun x => Sub.of_perm_cons (h2 x)⟩⟩
/-- A row at block b is on the list. -/
class AtRow (b : Nat) (H : List HE) (m c e s : outParam Nat) (xs : outParam (List Value)) (k : outParam (HE → List HE)) : Prop where h : ∃ R, Has H (.row (.slice (some ⟨b, 0, none⟩) m c) e s m xs) R ∧ ∀ x, Sub (k x) (x :: R)
instance (priority := 100) (b m c e s : Nat) (xs : List Value) (r : List HE) : AtRow b (.row (.slice (some ⟨b, 0, none⟩) m c) e s m xs :: r) m c e s xs (fun x => x :: r) := ⟨r, .here _ _, fun _ => Sub.refl _⟩
instance (priority := 10) (b m c e s : Nat) (y : HE) (xs : List Value) (r : List HE) (k : HE → List HE) [h : AtRow b r m c e s xs k] : AtRow b (y :: r) m c e s xs (fun x => y :: k x) :=
  ⟨let ⟨R, h1, h2⟩ := h.h; ⟨y :: R, .there y h1, fun x => Sub.of_perm_cons (h2 x)⟩⟩

/-- Numbers as cells. -/
def ints (k : IntKind) (ys : List Int) : List Value := ys.map (.int k)
@[simp] theorem ints_len (k : IntKind) (ys : List Int) : (ints k ys).length = ys.length := by simp [ints]
/-- What element number q of a list of cells is, and what it takes. -/
class Elem (xs : List Value) (q : Nat) (v : outParam Value) (c : outParam Prop) : Prop where h : c → xs[q]? = some v
instance (priority := 100) (k : IntKind) (ys : List Int) (q : Nat) : Elem (ints k ys) q (.int k (ys.getD q 0)) (q < ys.length) := ⟨fun h => by simp [ints, List.getD_eq_getElem?_getD, h]⟩
instance (priority := 50) (xs : List Value) (q : Nat) (v : Value) [h : Get xs q v] : Elem xs q v True := ⟨fun _ => h.h⟩
class ESet (xs : List Value) (q : Nat) (v : Value) (ys : outParam (List Value)) (c : outParam Prop) : Prop where h : c → xs.set q v = ys ∧ q < xs.length
instance (priority := 100) (k : IntKind) (ys : List Int) (q : Nat) (e : Int) : ESet (ints k ys) q (.int k e) (ints k (ys.set q e)) (q < ys.length) := ⟨fun h => by simp [ints, h]⟩
instance (priority := 50) (xs : List Value) (q : Nat) (v : Value) (ys : List Value) [h : SetAt xs q v ys] : ESet xs q v ys True := ⟨fun _ => h.h⟩

/-- A slice in memory that nobody writes: from cell off of block b on it reads as xs. -/
class RoAt (w0 : World) (W : Nat → Prop) (b off : Nat) (xs : outParam (List Value)) : Prop where h : b < w0.heap.size ∧ ¬ W b ∧ ∀ j v, xs[j]? = some v → w0.cell? ⟨b, off + j, none⟩ = some v

section
variable (P : Program) (w0 : World) (W : Nat → Prop) (H : List HE)

/-- A step that yields v and leaves memory alone, under c. -/
class MS (op : Op) (vs : List Value) (v : outParam Value) (c : outParam Prop) : Prop where
  h : c → ∀ {F : Fence} {n N : Nat} {ds : List Deferred} {σ : List (Nat × Value)} {d : Nat} {ty : TypeId} {pos : String} {aft : Array Edge} {gd : Option (Nat × Bool)} {K : Act → World → Prop} {Q : Exit → Act → World → Prop} [Wide F],
    vals σ op.operands.toList = some vs → Nat.blt d N = true → J N ds w0 W ((d, v) :: σ) H K → OJ F n P N ds w0 W σ H ⟨some d, op, ty, pos, aft, gd⟩ K Q
/-- The same, numbers that may wrap round. -/
class MW (op : Op) (vs : List Value) (v : outParam Value) (c : outParam Prop) : Prop where
  h : c → ∀ {F : Fence} {n N : Nat} {ds : List Deferred} {σ : List (Nat × Value)} {d : Nat} {ty : TypeId} {pos : String} {aft : Array Edge} {gd : Option (Nat × Bool)} {K : Act → World → Prop} {Q : Exit → Act → World → Prop} [Wide F],
    vals σ op.operands.toList = some vs → Nat.blt d N = true → J N ds w0 W ((d, v) :: σ) H K → OJ F n P N ds w0 W σ H ⟨some d, op, ty, pos, aft, gd⟩ K Q
/-- A step that yields nothing and turns memory. -/
class SS (op : Op) (vs : List Value) (H' : outParam (List HE)) (c : outParam Prop) : Prop where
  h : c → ∀ {F : Fence} {n N : Nat} {ds : List Deferred} {σ : List (Nat × Value)} {ty : TypeId} {pos : String} {aft : Array Edge} {gd : Option (Nat × Bool)} {K : Act → World → Prop} {Q : Exit → Act → World → Prop} [Wide F],
    vals σ op.operands.toList = some vs → J N ds w0 W σ H' K → OJ F n P N ds w0 W σ H ⟨none, op, ty, pos, aft, gd⟩ K Q
/-- A step that makes a new block. -/
class NS (op : Op) (vs : List Value) (v : outParam (Nat → Value)) (H' : outParam (Nat → List HE)) (c : outParam Prop) : Prop where
  h : c → ∀ {F : Fence} {n N : Nat} {ds : List Deferred} {σ : List (Nat × Value)} {d : Nat} {ty : TypeId} {pos : String} {aft : Array Edge} {gd : Option (Nat × Bool)} {K : Act → World → Prop} {Q : Exit → Act → World → Prop} [Wide F],
    vals σ op.operands.toList = some vs → Nat.blt d N = true → (∀ b, J N ds w0 W ((d, v b) :: σ) (H' b) K) → OJ F n P N ds w0 W σ H ⟨some d, op, ty, pos, aft, gd⟩ K Q
end

theorem vals1 {σ : List (Nat × Value)} {x : Operand} {v : Value} (h : vals σ [x] = some [v]) : ev σ x = some v := by
  simp only [vals] at h
  cases hx : ev σ x <;> simp [hx] at h
  simp [h]
theorem vals2 {σ : List (Nat × Value)} {x y : Operand} {v u : Value} (h : vals σ [x, y] = some [v, u]) : ev σ x = some v ∧ ev σ y = some u := by
  simp only [vals] at h
  cases hx : ev σ x <;> simp [hx] at h
  cases hy : ev σ y <;> simp [hy] at h
  simp [h]
theorem vals3 {σ : List (Nat × Value)} {x y z : Operand} {v u t : Value} (h : vals σ [x, y, z] = some [v, u, t]) : ev σ x = some v ∧ ev σ y = some u ∧ ev σ z = some t := by
  simp only [vals] at h
  cases hx : ev σ x <;> simp [hx] at h
  cases hy : ev σ y <;> simp [hy] at h
  cases hz : ev σ z <;> simp [hz] at h
  simp [h]

class IsInt (dd : TypeDesc) (k : outParam IntKind) : Prop where h : dd = .int k
class NoAgg (dd : TypeDesc) : Prop where h : aggB dd = false
class YesAgg (dd : TypeDesc) : Prop where h : aggB dd = true

/-- A quotient. -/
def quN (a b : Nat) : Nat := a / b
theorem quN_cast (a b : Nat) : ((quN a b : Nat) : Int) = (a : Int) / (b : Int) := by simp [quN]
theorem quN_le (a b : Nat) : quN a b ≤ a := Nat.div_le_self _ _
/-- A shift to the right. -/
def shN (a b : Nat) : Nat := a / 2 ^ b
theorem shN_le (a b : Nat) : shN a b ≤ a := Nat.div_le_self _ _
section
variable {P : Program} {w0 : World} {W : Nat → Prop} {H : List HE}
theorem opnds1 {op : Op} {x : Operand} (h : op.operands = #[x]) {σ : List (Nat × Value)} {v : Value} (k : vals σ op.operands.toList = some [v]) : ev σ x = some v := vals1 (by rw [h] at k; exact k)
theorem opnds2 {op : Op} {x y : Operand} (h : op.operands = #[x, y]) {σ : List (Nat × Value)} {v u : Value} (k : vals σ op.operands.toList = some [v, u]) : ev σ x = some v ∧ ev σ y = some u := vals2 (by rw [h] at k; exact k)

instance (x : Operand) (v : Value) : MS P w0 W H (.move x) [v] v True := ⟨fun _ _ _ _ _ _ _ _ _ _ _ _ _ _ h1 h2 h3 => r_move (opnds1 rfl h1) h2 h3⟩
instance (x : Operand) (v : Value) : MS P w0 W H (.assign x) [v] v True := ⟨fun _ _ _ _ _ _ _ _ _ _ _ _ _ _ h1 h2 h3 => r_assign (opnds1 rfl h1) h2 h3⟩
instance (c x y : Operand) (u v : Value) : MS P w0 W H (.pick c x y) [.bool true, u, v] u True := ⟨fun _ _ _ _ _ _ _ _ _ _ _ _ _ _ h1 h2 h3 => let ⟨a, b, _⟩ := vals3 h1; r_pickT a b h2 h3⟩
instance (c x y : Operand) (u v : Value) : MS P w0 W H (.pick c x y) [.bool false, u, v] v True := ⟨fun _ _ _ _ _ _ _ _ _ _ _ _ _ _ h1 h2 h3 => let ⟨a, _, b⟩ := vals3 h1; r_pickF a b h2 h3⟩
instance (x : Operand) (p : Addr) : MS P w0 W H (.nilCheck x) [.pointer (some p)] (.pointer (some p)) True := ⟨fun _ _ _ _ _ _ _ _ _ _ _ _ _ _ h1 h2 h3 => r_nil (opnds1 rfl h1) h2 h3⟩
instance (x : Operand) (p : Addr) : SS P w0 W H (.nilCheck x) [.pointer (some p)] H True := ⟨fun _ _ _ _ _ _ _ _ _ _ _ _ _ h1 h3 => r_nil0 (opnds1 rfl h1) h3⟩
instance (x : Operand) (i : Nat) (vs : List Value) (v : Value) [hg : Get vs i v] : MS P w0 W H (.extract x i) [.tuple vs.toArray] v True := ⟨fun _ _ _ _ _ _ _ _ _ _ _ _ _ _ h1 h2 h3 => r_extract (opnds1 rfl h1) (by simpa using hg.h) h2 h3⟩

instance (t u : TypeId) (x y : Operand) (k : IntKind) (a b : Int) : MS P w0 W H (.binOp .add t x y u) [.int k a, .int k b] (.int k (a + b)) (InR k (a + b)) := ⟨fun hc _ _ _ _ _ _ _ _ _ _ _ _ _ h1 h2 h3 => let ⟨p, q⟩ := vals2 h1; r_ari p q rfl hc h2 h3⟩
instance (t u : TypeId) (x y : Operand) (k : IntKind) (a b : Int) : MS P w0 W H (.binOp .sub t x y u) [.int k a, .int k b] (.int k (a - b)) (InR k (a - b)) := ⟨fun hc _ _ _ _ _ _ _ _ _ _ _ _ _ h1 h2 h3 => let ⟨p, q⟩ := vals2 h1; r_ari p q rfl hc h2 h3⟩
instance (t u : TypeId) (x y : Operand) (k : IntKind) (a b : Int) : MS P w0 W H (.binOp .mul t x y u) [.int k a, .int k b] (.int k (a * b)) (InR k (a * b)) := ⟨fun hc _ _ _ _ _ _ _ _ _ _ _ _ _ h1 h2 h3 => let ⟨p, q⟩ := vals2 h1; r_ari p q rfl hc h2 h3⟩
instance (t u : TypeId) (x y : Operand) (k : IntKind) (a b : Int) : MS P w0 W H (.binOp .quo t x y u) [.int k a, .int k b] (.int k (a / b)) (0 ≤ a ∧ 0 < b ∧ InR k a) := ⟨fun hc _ _ _ _ _ _ _ _ _ _ _ _ _ h1 h2 h3 => let ⟨p, q⟩ := vals2 h1; r_quo_in p q hc.1 hc.2.1 hc.2.2 h2 h3⟩
instance (t u : TypeId) (x y : Operand) (k : IntKind) (a b : Int) : MS P w0 W H (.binOp .rem t x y u) [.int k a, .int k b] (.int k (a % b)) (0 ≤ a ∧ 0 < b) := ⟨fun hc _ _ _ _ _ _ _ _ _ _ _ _ _ h1 h2 h3 => let ⟨p, q⟩ := vals2 h1; r_rem_in p q hc.1 hc.2 h2 h3⟩
instance (priority := 2000) (t u : TypeId) (x y : Operand) (k : IntKind) (a b : Nat) : MS P w0 W H (.binOp .quo t x y u) [.int k (a : Int), .int k (b : Int)] (.int k ((quN a b : Nat) : Int)) (0 < b ∧ InR k (a : Int)) := ⟨fun hc _ _ _ _ _ _ _ _ _ _ _ _ _ h1 h2 h3 => let ⟨p, q⟩ := vals2 h1; r_quo_in p q (by omega) (by omega) hc.2 h2 (by rw [← quN_cast]; exact h3)⟩
instance (priority := 2000) (t u : TypeId) (x y : Operand) (k : IntKind) (a : Int) : MS P w0 W H (.binOp .eql t x y u) [.int k a, .int k a] (.bool true) True := ⟨fun _ _ _ _ _ _ _ _ _ _ _ _ _ _ h1 h2 h3 => let ⟨p, q⟩ := vals2 h1; r_bin p q (by simp [binv]) h2 h3⟩
instance (priority := 2000) (t u : TypeId) (x y : Operand) (k : IntKind) (a : Int) : MS P w0 W H (.binOp .neq t x y u) [.int k a, .int k a] (.bool false) True := ⟨fun _ _ _ _ _ _ _ _ _ _ _ _ _ _ h1 h2 h3 => let ⟨p, q⟩ := vals2 h1; r_bin p q (by simp [binv]) h2 h3⟩
instance (t u : TypeId) (x y : Operand) (k : IntKind) (a b : Int) : MW P w0 W H (.binOp .quo t x y u) [.int k a, .int k b] (.int k (k.wrap (a.tdiv b))) (b ≠ 0) := ⟨fun hc _ _ _ _ _ _ _ _ _ _ _ _ _ h1 h2 h3 => let ⟨p, q⟩ := vals2 h1; r_quo p q hc h2 h3⟩
instance (t u : TypeId) (x y : Operand) (k : IntKind) (a b : Int) : MW P w0 W H (.binOp .rem t x y u) [.int k a, .int k b] (.int k (a.tmod b)) (b ≠ 0) := ⟨fun hc _ _ _ _ _ _ _ _ _ _ _ _ _ h1 h2 h3 => let ⟨p, q⟩ := vals2 h1; r_rem p q hc h2 h3⟩
instance (t u : TypeId) (x y : Operand) (k : IntKind) (a b : Int) : MW P w0 W H (.binOp .add t x y u) [.int k a, .int k b] (.int k (k.wrap (a + b))) True := ⟨fun _ _ _ _ _ _ _ _ _ _ _ _ _ _ h1 h2 h3 => let ⟨p, q⟩ := vals2 h1; r_bin p q rfl h2 h3⟩
instance (t u : TypeId) (x y : Operand) (k : IntKind) (a b : Int) : MW P w0 W H (.binOp .sub t x y u) [.int k a, .int k b] (.int k (k.wrap (a - b))) True := ⟨fun _ _ _ _ _ _ _ _ _ _ _ _ _ _ h1 h2 h3 => let ⟨p, q⟩ := vals2 h1; r_bin p q rfl h2 h3⟩
instance (t u : TypeId) (x y : Operand) (k : IntKind) (a b : Int) : MW P w0 W H (.binOp .mul t x y u) [.int k a, .int k b] (.int k (k.wrap (a * b))) True := ⟨fun _ _ _ _ _ _ _ _ _ _ _ _ _ _ h1 h2 h3 => let ⟨p, q⟩ := vals2 h1; r_bin p q rfl h2 h3⟩
instance (t u : TypeId) (x y : Operand) (k : IntKind) (a b : Int) : MS P w0 W H (.binOp .and t x y u) [.int k a, .int k b] (.int k (bits .and k a b)) True := ⟨fun _ _ _ _ _ _ _ _ _ _ _ _ _ _ h1 h2 h3 => let ⟨p, q⟩ := vals2 h1; r_bin p q rfl h2 h3⟩
instance (t u : TypeId) (x y : Operand) (k : IntKind) (a b : Int) : MS P w0 W H (.binOp .or t x y u) [.int k a, .int k b] (.int k (bits .or k a b)) True := ⟨fun _ _ _ _ _ _ _ _ _ _ _ _ _ _ h1 h2 h3 => let ⟨p, q⟩ := vals2 h1; r_bin p q rfl h2 h3⟩
instance (t u : TypeId) (x y : Operand) (k : IntKind) (a b : Int) : MS P w0 W H (.binOp .xor t x y u) [.int k a, .int k b] (.int k (bits .xor k a b)) True := ⟨fun _ _ _ _ _ _ _ _ _ _ _ _ _ _ h1 h2 h3 => let ⟨p, q⟩ := vals2 h1; r_bin p q rfl h2 h3⟩
instance (t u : TypeId) (x y : Operand) (k : IntKind) (a b : Int) : MS P w0 W H (.binOp .andNot t x y u) [.int k a, .int k b] (.int k (bits .andNot k a b)) True := ⟨fun _ _ _ _ _ _ _ _ _ _ _ _ _ _ h1 h2 h3 => let ⟨p, q⟩ := vals2 h1; r_bin p q rfl h2 h3⟩
instance (t u : TypeId) (x y : Operand) (k : IntKind) (a b : Int) : MS P w0 W H (.binOp .eql t x y u) [.int k a, .int k b] (.bool (a == b)) True := ⟨fun _ _ _ _ _ _ _ _ _ _ _ _ _ _ h1 h2 h3 => let ⟨p, q⟩ := vals2 h1; r_bin p q rfl h2 h3⟩
instance (t u : TypeId) (x y : Operand) (k : IntKind) (a b : Int) : MS P w0 W H (.binOp .neq t x y u) [.int k a, .int k b] (.bool (a != b)) True := ⟨fun _ _ _ _ _ _ _ _ _ _ _ _ _ _ h1 h2 h3 => let ⟨p, q⟩ := vals2 h1; r_bin p q rfl h2 h3⟩
instance (t u : TypeId) (x y : Operand) (k : IntKind) (a b : Int) : MS P w0 W H (.binOp .lss t x y u) [.int k a, .int k b] (.bool (decide (a < b))) True := ⟨fun _ _ _ _ _ _ _ _ _ _ _ _ _ _ h1 h2 h3 => let ⟨p, q⟩ := vals2 h1; r_bin p q rfl h2 h3⟩
instance (t u : TypeId) (x y : Operand) (k : IntKind) (a b : Int) : MS P w0 W H (.binOp .leq t x y u) [.int k a, .int k b] (.bool (decide (a ≤ b))) True := ⟨fun _ _ _ _ _ _ _ _ _ _ _ _ _ _ h1 h2 h3 => let ⟨p, q⟩ := vals2 h1; r_bin p q rfl h2 h3⟩
instance (t u : TypeId) (x y : Operand) (k : IntKind) (a b : Int) : MS P w0 W H (.binOp .gtr t x y u) [.int k a, .int k b] (.bool (decide (b < a))) True := ⟨fun _ _ _ _ _ _ _ _ _ _ _ _ _ _ h1 h2 h3 => let ⟨p, q⟩ := vals2 h1; r_bin p q rfl h2 h3⟩
instance (t u : TypeId) (x y : Operand) (k : IntKind) (a b : Int) : MS P w0 W H (.binOp .geq t x y u) [.int k a, .int k b] (.bool (decide (b ≤ a))) True := ⟨fun _ _ _ _ _ _ _ _ _ _ _ _ _ _ h1 h2 h3 => let ⟨p, q⟩ := vals2 h1; r_bin p q rfl h2 h3⟩
instance (t u : TypeId) (x y : Operand) (a b : Bool) [Und P t .bool] : MS P w0 W H (.binOp .eql t x y u) [.bool a, .bool b] (.bool (a == b)) True := ⟨fun _ _ _ _ _ _ _ _ _ _ _ _ _ _ h1 h2 h3 => let ⟨p, q⟩ := vals2 h1; r_eqB p q h2 h3⟩
instance (t u : TypeId) (x y : Operand) (a b : Bool) [Und P t .bool] : MS P w0 W H (.binOp .neq t x y u) [.bool a, .bool b] (.bool (!(a == b))) True := ⟨fun _ _ _ _ _ _ _ _ _ _ _ _ _ _ h1 h2 h3 => let ⟨p, q⟩ := vals2 h1; r_neB p q h2 h3⟩
instance (priority := 10) (t u : TypeId) (x y : Operand) (k k' : IntKind) (a b : Int) : MS P w0 W H (.binOp .shl t x y u) [.int k a, .int k' b] (.int k (a * 2 ^ b.toNat)) (0 ≤ b ∧ LeB k b.toNat ∧ InR k (a * 2 ^ b.toNat)) := ⟨fun hc _ _ _ _ _ _ _ _ _ _ _ _ _ h1 h2 h3 => let ⟨p, q⟩ := vals2 h1; r_shl p q hc.1 h2 (by rw [Nat.min_eq_left (leB hc.2.1), wrap_in hc.2.2]; exact h3)⟩
instance (priority := 100) (t u : TypeId) (x y : Operand) (k k' : IntKind) (a : Int) (b : Nat) : MS P w0 W H (.binOp .shl t x y u) [.int k a, .int k' (b : Int)] (.int k (a * 2 ^ b)) (LeB k b ∧ InR k (a * 2 ^ b)) := ⟨fun hc _ _ _ _ _ _ _ _ _ _ _ _ _ h1 h2 h3 => let ⟨p, q⟩ := vals2 h1; r_shl p q (by omega) h2 (by rw [Int.toNat_natCast, Nat.min_eq_left (leB hc.1), wrap_in hc.2]; exact h3)⟩
instance (t u : TypeId) (x y : Operand) (k k' : IntKind) (a b : Int) : MW P w0 W H (.binOp .shl t x y u) [.int k a, .int k' b] (.int k (k.wrap (a * 2 ^ (min b.toNat k.bits)))) (0 ≤ b) := ⟨fun hc _ _ _ _ _ _ _ _ _ _ _ _ _ h1 h2 h3 => let ⟨p, q⟩ := vals2 h1; r_shl p q hc h2 h3⟩
instance (priority := 10) (t u : TypeId) (x y : Operand) (k k' : IntKind) (a b : Int) : MS P w0 W H (.binOp .shr t x y u) [.int k a, .int k' b] (.int k (a / 2 ^ b.toNat)) (0 ≤ b ∧ LeB k b.toNat) := ⟨fun hc _ _ _ _ _ _ _ _ _ _ _ _ _ h1 h2 h3 => let ⟨p, q⟩ := vals2 h1; r_shr p q hc.1 h2 (by rw [Nat.min_eq_left (leB hc.2), Int.fdiv_eq_ediv_of_nonneg _ (Int.le_of_lt (Int.pow_pos (by decide)))]; exact h3)⟩
instance (priority := 50) (t u : TypeId) (x y : Operand) (k k' : IntKind) (a : Int) (b : Nat) : MS P w0 W H (.binOp .shr t x y u) [.int k a, .int k' (b : Int)] (.int k (a / 2 ^ b)) (LeB k b) := ⟨fun hc _ _ _ _ _ _ _ _ _ _ _ _ _ h1 h2 h3 => let ⟨p, q⟩ := vals2 h1; r_shr p q (by omega) h2 (by rw [Int.toNat_natCast, Nat.min_eq_left (leB hc), Int.fdiv_eq_ediv_of_nonneg _ (Int.le_of_lt (Int.pow_pos (by decide)))]; exact h3)⟩
instance (priority := 100) (t u : TypeId) (x y : Operand) (k k' : IntKind) (a b : Nat) : MS P w0 W H (.binOp .shr t x y u) [.int k (a : Int), .int k' (b : Int)] (.int k ((shN a b : Nat) : Int)) (LeB k b) := ⟨fun hc _ _ _ _ _ _ _ _ _ _ _ _ _ h1 h2 h3 => let ⟨p, q⟩ := vals2 h1; r_shrN p q (leB hc) h2 h3⟩
theorem lit_toNat (b : Nat) : (OfNat.ofNat b : Int).toNat = (OfNat.ofNat b : Nat) := by
  show (Int.ofNat b).toNat = b
  rfl
theorem lit_nonneg (b : Nat) : (0 : Int) ≤ (OfNat.ofNat b : Int) := Int.natCast_nonneg b
instance (priority := 40) (t u : TypeId) (x y : Operand) (k k' : IntKind) (a : Int) (b : Nat) : MS P w0 W H (.binOp .shl t x y u) [.int k a, .int k' (no_index (OfNat.ofNat b : Int))] (.int k (a * 2 ^ (OfNat.ofNat b : Nat))) (LeB k (OfNat.ofNat b : Nat) ∧ InR k (a * 2 ^ (OfNat.ofNat b : Nat))) := ⟨fun hc _ _ _ _ _ _ _ _ _ _ _ _ _ h1 h2 h3 => let ⟨p, q⟩ := vals2 h1; r_shl p q (lit_nonneg b) h2 (by rw [lit_toNat, Nat.min_eq_left (leB hc.1), wrap_in hc.2]; exact h3)⟩
instance (priority := 40) (t u : TypeId) (x y : Operand) (k k' : IntKind) (a : Int) (b : Nat) : MS P w0 W H (.binOp .shr t x y u) [.int k a, .int k' (no_index (OfNat.ofNat b : Int))] (.int k (a / 2 ^ (OfNat.ofNat b : Nat))) (LeB k (OfNat.ofNat b : Nat)) := ⟨fun hc _ _ _ _ _ _ _ _ _ _ _ _ _ h1 h2 h3 => let ⟨p, q⟩ := vals2 h1; r_shr p q (lit_nonneg b) h2 (by rw [lit_toNat, Nat.min_eq_left (leB hc), Int.fdiv_eq_ediv_of_nonneg _ (Int.le_of_lt (Int.pow_pos (by decide)))]; exact h3)⟩
instance (priority := 200) (t u : TypeId) (x y : Operand) (k k' : IntKind) (a : Int) (b : Nat) : MW P w0 W H (.binOp .shl t x y u) [.int k a, .int k' (no_index (OfNat.ofNat b : Int))] (.int k (k.wrap (a * 2 ^ (OfNat.ofNat b : Nat)))) (LeB k (OfNat.ofNat b : Nat)) := ⟨fun hc _ _ _ _ _ _ _ _ _ _ _ _ _ h1 h2 h3 => let ⟨p, q⟩ := vals2 h1; r_shl p q (lit_nonneg b) h2 (by rw [lit_toNat, Nat.min_eq_left (leB hc)]; exact h3)⟩
instance (t : TypeId) (x : Operand) (a : Bool) : MS P w0 W H (.unOp .not t x) [.bool a] (.bool (!a)) True := ⟨fun _ _ _ _ _ _ _ _ _ _ _ _ _ _ h1 h2 h3 => r_not (opnds1 rfl h1) h2 h3⟩
instance (priority := 2000) (t : TypeId) (x : Operand) : MS P w0 W H (.unOp .not t x) [.bool true] (.bool false) True := ⟨fun _ _ _ _ _ _ _ _ _ _ _ _ _ _ h1 h2 h3 => r_not (opnds1 rfl h1) h2 h3⟩
instance (priority := 2000) (t : TypeId) (x : Operand) : MS P w0 W H (.unOp .not t x) [.bool false] (.bool true) True := ⟨fun _ _ _ _ _ _ _ _ _ _ _ _ _ _ h1 h2 h3 => r_not (opnds1 rfl h1) h2 h3⟩
instance (t : TypeId) (x : Operand) (k : IntKind) (a : Int) : MS P w0 W H (.unOp .neg t x) [.int k a] (.int k (-a)) (InR k (-a)) := ⟨fun hc _ _ _ _ _ _ _ _ _ _ _ _ _ h1 h2 h3 => r_neg_in (opnds1 rfl h1) hc h2 h3⟩
instance (t : TypeId) (x : Operand) (k : IntKind) (a : Int) : MW P w0 W H (.unOp .neg t x) [.int k a] (.int k (k.wrap (0 - a))) True := ⟨fun _ _ _ _ _ _ _ _ _ _ _ _ _ _ h1 h2 h3 => r_neg (opnds1 rfl h1) h2 h3⟩
instance (s t : TypeId) (x : Operand) (k k' : IntKind) (a : Int) (dd : TypeDesc) [Und P s dd] [Und P t (.int k')] : MS P w0 W H (.convert s t x) [.int k a] (.int k' a) (InR k' a) := ⟨fun hc _ _ _ _ _ _ _ _ _ _ _ _ _ h1 h2 h3 => r_conv_in (s := s) (opnds1 rfl h1) hc h2 h3⟩
instance (s t : TypeId) (x : Operand) (k k' : IntKind) (a : Int) (dd : TypeDesc) [Und P s dd] [Und P t (.int k')] : MW P w0 W H (.convert s t x) [.int k a] (.int k' (k'.wrap a)) True := ⟨fun _ _ _ _ _ _ _ _ _ _ _ _ _ _ h1 h2 h3 => r_conv (s := s) (opnds1 rfl h1) h2 h3⟩
instance (s f off b q r : Nat) (x : Operand) [Fa P s f off] [hr : NAdd q off r] : MS P w0 W H (.fieldAddr s x f) [.pointer (some ⟨b, q, none⟩)] (.pointer (some ⟨b, r, none⟩)) True := ⟨fun _ _ _ _ _ _ _ _ _ _ _ _ _ _ h1 h2 h3 => r_fieldAddr (opnds1 rfl h1) h2 (by rw [hr.h]; exact h3)⟩
instance (x : Operand) (t e : TypeId) (A : Option Addr) (m c : Nat) [Und P t (.slice e)] : MS P w0 W H (.call ⟨.builtin .len, #[x], #[t]⟩) [.slice A m c] (.int .i64 m) True := ⟨fun _ _ _ _ _ _ _ _ _ _ _ _ _ _ h1 h2 h3 => r_len (t := t) (opnds1 rfl h1) h2 h3⟩
instance (x : Operand) (t e : TypeId) (m : Nat) (v : Value) [Und P t (.array m e)] : MS P w0 W H (.call ⟨.builtin .len, #[x], #[t]⟩) [v] (.int .i64 m) True := ⟨fun _ _ _ _ _ _ _ _ _ _ _ _ _ _ h1 h2 h3 => r_lenArr (t := t) (opnds1 rfl h1) h2 h3⟩
instance (x y : Operand) (ts : Array TypeId) (k : IntKind) (p q : Int) : MS P w0 W H (.call ⟨.builtin .min, #[x, y], ts⟩) [.int k p, .int k q] (.int k (min p q)) True := ⟨fun _ _ _ _ _ _ _ _ _ _ _ _ _ _ h1 h2 h3 => let ⟨a, b⟩ := opnds2 rfl h1; r_min a b h2 h3⟩
instance (x y : Operand) (ts : Array TypeId) (k : IntKind) (p q : Int) : MS P w0 W H (.call ⟨.builtin .max, #[x, y], ts⟩) [.int k p, .int k q] (.int k (max p q)) True := ⟨fun _ _ _ _ _ _ _ _ _ _ _ _ _ _ h1 h2 h3 => let ⟨a, b⟩ := opnds2 rfl h1; r_max a b h2 h3⟩
theorem vals_all {σ : List (Nat × Value)} : ∀ {l : List Operand} {vs : List Value}, vals σ l = some vs → ∀ {N : Nat} {ds : List Deferred} (a : Act), Tm N ds σ a → l.map a.eval = vs := fun h _ _ _ ha => vals_map ha h
instance (fn : Fn) (captured : Array Operand) (vs : List Value) : MS P w0 W H (.makeFunc fn #[] captured) vs (.func fn #[] vs.toArray) True := ⟨fun _ _ _ _ _ _ _ _ _ _ _ _ _ _ h1 h2 h3 => r_makeFunc (xs := #[]) (ys := vs.toArray) (fun a ha => ⟨by simp, by
  have := vals_all h1 a ha
  rw [← this]
  apply Array.ext'
  simp [Op.operands]⟩) h2 h3⟩
class NoIface (dd : TypeDesc) : Prop where h : (match dd with | .interface _ => false | _ => true) = true
instance (t : TypeId) (x : Operand) (v : Value) (dd : TypeDesc) [Und P t dd] [hn : NoIface dd] : MS P w0 W H (.makeInterface t x) [v] (.iface t v) True := ⟨fun _ _ _ _ _ _ _ _ _ _ _ _ _ _ h1 h2 h3 => r_makeIface (t := t) hn.h (opnds1 rfl h1) h2 h3⟩
instance (priority := 100) (x y : Operand) (t e b q m c sz bs j r r' : Nat) (z : Value) (k : IntKind) [Und P t (.slice e)] [Inf P e sz bs z] [hm : NMul j sz r] [hr : NAdd q r r'] : MS P w0 W H (.indexAddr t x y) [.slice (some ⟨b, q, none⟩) m c, .int k (j : Int)] (.pointer (some ⟨b, r', none⟩)) (j < m) :=
  ⟨fun hc _ _ _ _ _ _ _ _ _ _ _ _ _ h1 h2 h3 => let ⟨p1, p2⟩ := vals2 h1; r_indexAddr (t := t) (i := j) p1 p2 hc h2 (by rw [hm.h, hr.h]; exact h3)⟩
instance (priority := 10) (x y : Operand) (t e b q m c sz bs r r' : Nat) (i : Int) (z : Value) (k : IntKind) [Und P t (.slice e)] [Inf P e sz bs z] [hm : NMul i.toNat sz r] [hr : NAdd q r r'] : MS P w0 W H (.indexAddr t x y) [.slice (some ⟨b, q, none⟩) m c, .int k i] (.pointer (some ⟨b, r', none⟩)) (0 ≤ i ∧ i < m) :=
  ⟨fun hc _ _ _ _ _ _ _ _ _ _ _ _ _ h1 h2 h3 => let ⟨p1, p2⟩ := vals2 h1; r_indexAt (t := t) i.toNat p1 p2 (by omega) (by omega) h2 (by rw [hm.h, hr.h]; exact h3)⟩

instance : NoAgg .bool := ⟨rfl⟩
instance (k : IntKind) : NoAgg (.int k) := ⟨rfl⟩
instance (e : TypeId) : NoAgg (.slice e) := ⟨rfl⟩
instance (e : TypeId) : NoAgg (.pointer e) := ⟨rfl⟩
instance : NoAgg .string := ⟨rfl⟩
instance (m e : Nat) : YesAgg (.array m e) := ⟨rfl⟩
instance (k : IntKind) : NoIface (.int k) := ⟨rfl⟩
instance : NoIface .bool := ⟨rfl⟩
instance (e : TypeId) : NoIface (.pointer e) := ⟨rfl⟩
instance : NoIface .string := ⟨rfl⟩

instance (priority := 100) (t tb b q : Nat) (dd : TypeDesc) (x : Operand) (v : Value) (cs : List Value) (k : HE → List HE) [Und P t dd] [hd : NoAgg dd] [h : At b H tb cs k] [hg : Get cs q v] : MS P w0 W H (.load t x) [.pointer (some ⟨b, q, none⟩)] v True :=
  ⟨fun _ _ _ _ _ _ _ _ _ _ _ _ _ _ h1 h2 h3 => let ⟨_, h4, _⟩ := h.h; r_load (t := t) (opnds1 rfl h1) hd.h (Cell.blk h4 hg.h) h2 h3⟩
instance (priority := 100) (t tb b q sz bs : Nat) (z : Value) (dd : TypeDesc) (x : Operand) (o cs : List Value) (k : HE → List HE) [Und P t dd] [hd : YesAgg dd] [Inf P t sz bs z] [h : At b H tb cs k] [hg : Cut cs q sz o] : MS P w0 W H (.load t x) [.pointer (some ⟨b, q, none⟩)] (.agg o.toArray) True :=
  ⟨fun _ _ _ _ _ _ _ _ _ _ _ _ _ _ h1 h2 h3 => let ⟨_, h4, _⟩ := h.h; r_loadAgg (t := t) (opnds1 rfl h1) hd.h (Range.cut h4 hg.h.1) hg.h.2 h2 h3⟩
instance (priority := 50) (t b q m c e s : Nat) (dd : TypeDesc) (x : Operand) (v : Value) (p : Prop) (xs : List Value) (k : HE → List HE) [Und P t dd] [hd : NoAgg dd] [h : AtRow b H m c e s xs k] [hg : Elem xs q v p] : MS P w0 W H (.load t x) [.pointer (some ⟨b, q, none⟩)] v p :=
  ⟨fun hc _ _ _ _ _ _ _ _ _ _ _ _ _ h1 h2 h3 => let ⟨_, h4, _⟩ := h.h; r_load (t := t) (opnds1 rfl h1) hd.h (Cell.row h4 (hg.h hc)) h2 h3⟩
/-- In memory that nobody writes: cell number q of block b. -/
class RoGet (w0 : World) (W : Nat → Prop) (b q : Nat) (v : outParam Value) (c : outParam Prop) : Prop where h : c → b < w0.heap.size ∧ ¬ W b ∧ w0.cell? ⟨b, q, none⟩ = some v
instance (priority := 30) (t b q : Nat) (dd : TypeDesc) (x : Operand) (v : Value) (p : Prop) [Und P t dd] [hd : NoAgg dd] [hr : RoGet w0 W b q v p] : MS P w0 W H (.load t x) [.pointer (some ⟨b, q, none⟩)] v p :=
  ⟨fun hc _ _ _ _ _ _ _ _ _ _ _ _ _ h1 h2 h3 => let ⟨e1, e2, e3⟩ := hr.h hc; r_load (t := t) (opnds1 rfl h1) hd.h (Cell.old e1 e2 e3) h2 h3⟩
instance (s f off fty : Nat) (dd : TypeDesc) (x : Operand) (cs : List Value) (v : Value) [Ff P s f off fty] [Und P fty dd] [hd : NoAgg dd] [hg : Get cs off v] : MS P w0 W H (.field s x f) [.agg cs.toArray] v True :=
  ⟨fun _ _ _ _ _ _ _ _ _ _ _ _ _ _ h1 h2 h3 => r_field (off := off) (opnds1 rfl h1) hd.h (by simpa using hg.h) h2 h3⟩
instance (s f off fty sz bs : Nat) (z : Value) (dd : TypeDesc) (x : Operand) (cs o : List Value) [Ff P s f off fty] [Und P fty dd] [hd : YesAgg dd] [Inf P fty sz bs z] [hg : Cut cs off sz o] : MS P w0 W H (.field s x f) [.agg cs.toArray] (.agg o.toArray) True :=
  ⟨fun _ _ _ _ _ _ _ _ _ _ _ _ _ _ h1 h2 h3 => r_fieldAgg (fty := fty) (off := off) (opnds1 rfl h1) hd.h hg.h.1 h2 h3⟩

class One (v : Value) : Prop where h : v.oneCell' = true
instance (k : IntKind) (n : Int) : One (.int k n) := ⟨rfl⟩
instance (b : Bool) : One (.bool b) := ⟨rfl⟩
instance (a : Option Addr) : One (.pointer a) := ⟨rfl⟩
instance (a : Option Addr) (m c : Nat) : One (.slice a m c) := ⟨rfl⟩
instance (s : ByteArray) : One (.string s) := ⟨rfl⟩
instance (t : TypeId) (v : Value) : One (.iface t v) := ⟨rfl⟩
instance : One .nilIface := ⟨rfl⟩
instance (priority := 100) (t tb b q bs : Nat) (z : Value) (x y : Operand) (v : Value) (cs cs' : List Value) (k : HE → List HE) [Inf P t 1 bs z] [h1 : One v] [h : At b H tb cs k] [hs : SetAt cs q v cs'] : SS P w0 W H (.store t x y) [.pointer (some ⟨b, q, none⟩), v] (k (.blk b tb cs')) True :=
  ⟨fun _ _ _ _ _ _ _ _ _ _ _ _ _ k1 k3 => let ⟨_, h4, h5⟩ := h.h; let ⟨p1, p2⟩ := vals2 k1; r_store (t := t) (by rfl) p1 p2 h1.h h4 (by have := hs.h.2; simpa using this) hs.h.1 (j_perm (h5 _) k3)⟩
instance (priority := 50) (t b q bs m c e s : Nat) (z : Value) (p : Prop) (x y : Operand) (v : Value) (xs xs' : List Value) (k : HE → List HE) [Inf P t 1 bs z] [h1 : One v] [h : AtRow b H m c e s xs k] [hs : ESet xs q v xs' p] : SS P w0 W H (.store t x y) [.pointer (some ⟨b, q, none⟩), v] (k (.row (.slice (some ⟨b, 0, none⟩) m c) e s m xs')) p :=
  ⟨fun hc _ _ _ _ _ _ _ _ _ _ _ _ k1 k3 => let ⟨_, h4, h5⟩ := h.h; let ⟨p1, p2⟩ := vals2 k1; r_storeRow (t := t) (by rfl) p1 p2 h1.h h4 (hs.h hc).2 (by rw [(hs.h hc).1]; exact j_perm (h5 _) k3)⟩
class ZC (z : Value) (zs : outParam (List Value)) : Prop where h : z.cells.toList = zs
instance (l : List Value) : ZC (.agg l.toArray) l := ⟨rfl⟩
instance (k : IntKind) (n : Int) : ZC (.int k n) [.int k n] := ⟨rfl⟩
instance (b : Bool) : ZC (.bool b) [.bool b] := ⟨rfl⟩
instance (a : Option Addr) : ZC (.pointer a) [.pointer a] := ⟨rfl⟩
instance (a : Option Addr) (m c : Nat) : ZC (.slice a m c) [.slice a m c] := ⟨rfl⟩
instance (e sz bs : Nat) (z : Value) (zs : List Value) [Inf P e sz bs z] [hz : ZC z zs] : NS P w0 W H (.alloc e) [] (fun b => .pointer (some ⟨b, 0, none⟩)) (fun b => .blk b e zs :: H) True :=
  ⟨fun _ _ _ _ _ _ _ _ _ _ _ _ _ _ _ k2 k3 => r_alloc hz.h k2 k3⟩
instance (e : Nat) (x : Operand) (v : Value) (vs : List Value) [hz : ZC v vs] : NS P w0 W H (.box e x) [v] (fun b => .pointer (some ⟨b, 0, none⟩)) (fun b => .blk b e vs :: H) True :=
  ⟨fun _ _ _ _ _ _ _ _ _ _ _ _ _ _ k1 k2 k3 => r_box (opnds1 rfl k1) hz.h k2 k3⟩
end

/-- Cells laid over others, from number q on. -/
class Over (cs : List Value) (q : Nat) (vs : List Value) (o : outParam (List Value)) : Prop where h : cs.take q ++ vs ++ cs.drop (q + vs.length) = o ∧ q + vs.length ≤ cs.length
instance (cs : List Value) : Over cs 0 [] cs := ⟨by simp⟩
instance (c v : Value) (cs vs o : List Value) [h : Over cs 0 vs o] : Over (c :: cs) 0 (v :: vs) (v :: o) := ⟨by obtain ⟨h1, h2⟩ := h.h; simp at h1 h2; simp [h1]; exact h2⟩
instance (priority := 10) (c : Value) (cs vs o : List Value) (q : Nat) [h : Over cs q vs o] : Over (c :: cs) (q + 1) vs (c :: o) := ⟨by
  obtain ⟨h1, h2⟩ := h.h
  refine ⟨?_, by simp; omega⟩
  rw [← h1, show q + 1 + vs.length = (q + vs.length) + 1 from by omega]; simp⟩
class SameLen (cs : List Value) (n : Nat) : Prop where h : cs.length = n
instance : SameLen [] 0 := ⟨rfl⟩
instance (c : Value) (cs : List Value) (n : Nat) [h : SameLen cs n] : SameLen (c :: cs) (n + 1) := ⟨by simp [h.h]⟩

class NthP (l : List (Nat × Nat)) (i : Nat) (o : outParam Nat) : Prop where h : (l.getD i (0, 0)).1 = o
instance (o s : Nat) (r : List (Nat × Nat)) : NthP ((o, s) :: r) 0 o := ⟨rfl⟩
instance (x : Nat × Nat) (r : List (Nat × Nat)) (i o : Nat) [h : NthP r i o] : NthP (x :: r) (i + 1) o := ⟨by simpa using h.h⟩
/-- A struct's cells, laid part by part. -/
class Laid (pl : List (Nat × Nat)) (zs : List Value) (us : List (Nat × Value)) (o : outParam (List Value)) : Prop where h : fillL pl zs us = o
instance (pl : List (Nat × Nat)) (zs : List Value) : Laid pl zs [] zs := ⟨rfl⟩
instance (pl : List (Nat × Nat)) (zs vs m o : List Value) (i q : Nat) (v : Value) (r : List (Nat × Value)) [h1 : NthP pl i q] [h2 : ZC v vs] [h3 : Over zs q vs m] [h4 : Laid pl m r o] : Laid pl zs ((i, v) :: r) o := ⟨by
  rw [← h4.h]
  simp only [fillL]
  rw [h1.h, h2.h, ← h3.h.1]
  rfl⟩
class AppL (a b : List Value) (o : outParam (List Value)) : Prop where h : a ++ b = o
instance (b : List Value) : AppL [] b b := ⟨rfl⟩
instance (x : Value) (a b o : List Value) [h : AppL a b o] : AppL (x :: a) b (x :: o) := ⟨by rw [List.cons_append, h.h]⟩
/-- The cells of values, one behind the other. -/
class Flat (us : List (Nat × Value)) (o : outParam (List Value)) : Prop where h : us.flatMap (fun p => p.2.cells.toList) = o
instance : Flat [] [] := ⟨rfl⟩
instance (i : Nat) (v : Value) (vs m o : List Value) (r : List (Nat × Value)) [h1 : ZC v vs] [h2 : Flat r m] [h3 : AppL vs m o] : Flat ((i, v) :: r) o := ⟨by rw [List.flatMap_cons, h2.h, h1.h, h3.h]⟩

/-- The code's frame. -/
class CC (q : Act → World → Prop) (q' : outParam (Act → World → Prop)) : Prop where
  h : ∀ {N : Nat} {ds : List Deferred} {w0 : World} {W : Nat → Prop} {σ : List (Nat × Value)} {H : List HE}, J N ds w0 W σ H q' → J N ds w0 W σ H q
section
variable {F : Fence} {n : Nat} {P : Program} {Q : Exit → Act → World → Prop} {k : Act → World → Prop}
instance (x y : Code) : CC ((Code.seq x y).wpIn F n P Q) (x.wpIn F n P (Exit.then (y.wpIn F n P Q) Q)) := ⟨c_seq⟩
instance (id : Nat) (l : List Oper) : CC ((Code.region id l.toArray false).wpIn F n P Q) (wpListIn F n P l.toArray Q l) := ⟨c_region⟩
instance (id : Nat) (c : Code) : CC ((Code.block id c).wpIn F n P Q) (c.wpIn F n P (Exit.inBlock id Q)) := ⟨c_block⟩
instance : CC (Code.skip.wpIn F n P Q) (Q .normal) := ⟨c_skip⟩
instance : CC (Code.ret.wpIn F n P Q) (Q .ret) := ⟨c_ret⟩
instance (id : Nat) : CC ((Code.exit id).wpIn F n P Q) (Q (.exit id)) := ⟨c_exit⟩
instance : CC (Exit.then k Q .normal) k := ⟨c_then_normal⟩
instance : CC (Exit.then k Q .ret) (Q .ret) := ⟨c_then_ret⟩
instance (id : Nat) : CC (Exit.then k Q (.exit id)) (Q (.exit id)) := ⟨c_then_exit⟩
instance (id : Nat) : CC (Exit.inBlock id Q .normal) (Q .normal) := ⟨c_in_normal⟩
instance (id : Nat) : CC (Exit.inBlock id Q .ret) (Q .ret) := ⟨c_in_ret⟩
instance (id : Nat) : CC (Exit.inBlock id Q (.exit id)) (Q .normal) := ⟨c_in_exit⟩
instance (ops : Array Oper) : CC (wpListIn F n P ops Q []) (Q .normal) := ⟨l_nil⟩
end
section
variable {F : Fence} {n : Nat} {P : Program} {N : Nat} {ds : List Deferred} {w0 : World} {W : Nat → Prop} {σ : List (Nat × Value)} {H : List HE} {Q : Exit → Act → World → Prop} {k k' : Act → World → Prop}
variable {ops : Array Oper} {rest : List Oper} {d : Nat} {op : Op} {ty : TypeId} {pos : String} {aft : Array Edge} {gd : Option (Nat × Bool)} {vs : List Value} {v : Value} {c : Prop} {H' : List HE}
theorem cc [h : CC k k'] (g : J N ds w0 W σ H k') : J N ds w0 W σ H k := h.h g
theorem lms [Wide F] (hw : wantd ops σ ⟨some d, op, ty, pos, aft, gd⟩ = some true) (hv : vals σ op.operands.toList = some vs) [hm : MS P w0 W H op vs v c] (hdN : Nat.blt d N = true) (hc : c) (h : J N ds w0 W ((d, v) :: σ) H (wpListIn F n P ops Q rest)) :
    J N ds w0 W σ H (wpListIn F n P ops Q (⟨some d, op, ty, pos, aft, gd⟩ :: rest)) := l_run hw (hm.h hc hv hdN h)
theorem lmw [Wide F] (hw : wantd ops σ ⟨some d, op, ty, pos, aft, gd⟩ = some true) (hv : vals σ op.operands.toList = some vs) [hm : MW P w0 W H op vs v c] (hdN : Nat.blt d N = true) (hc : c) (h : J N ds w0 W ((d, v) :: σ) H (wpListIn F n P ops Q rest)) :
    J N ds w0 W σ H (wpListIn F n P ops Q (⟨some d, op, ty, pos, aft, gd⟩ :: rest)) := l_run hw (hm.h hc hv hdN h)
theorem lss [Wide F] (hw : wantd ops σ ⟨none, op, ty, pos, aft, gd⟩ = some true) (hv : vals σ op.operands.toList = some vs) [hm : SS P w0 W H op vs H' c] (hc : c) (h : J N ds w0 W σ H' (wpListIn F n P ops Q rest)) :
    J N ds w0 W σ H (wpListIn F n P ops Q (⟨none, op, ty, pos, aft, gd⟩ :: rest)) := l_run hw (hm.h hc hv h)
theorem lns [Wide F] {f : Nat → Value} {g : Nat → List HE} (hw : wantd ops σ ⟨some d, op, ty, pos, aft, gd⟩ = some true) (hv : vals σ op.operands.toList = some vs) [hm : NS P w0 W H op vs f g c] (hdN : Nat.blt d N = true) (hc : c) (h : ∀ b, J N ds w0 W ((d, f b) :: σ) (g b) (wpListIn F n P ops Q rest)) :
    J N ds w0 W σ H (wpListIn F n P ops Q (⟨some d, op, ty, pos, aft, gd⟩ :: rest)) := l_run hw (hm.h hc hv hdN h)
theorem hms [Wide F] {T : List (Nat × Value) → Prop} (hw : wantd ops σ ⟨some d, op, ty, pos, aft, gd⟩ = some true) (hv : vals σ op.operands.toList = some vs) [hm : MS P w0 W H op vs v c] (hdN : Nat.blt d N = true) (hc : c) (h : HdJ F n P N ds w0 W H ops rest ((d, v) :: σ) T) :
    HdJ F n P N ds w0 W H ops (⟨some d, op, ty, pos, aft, gd⟩ :: rest) σ T := h_run rfl hdN hw (fun _ _ hk => hm.h hc hv hdN hk) h
theorem hmw [Wide F] {T : List (Nat × Value) → Prop} (hw : wantd ops σ ⟨some d, op, ty, pos, aft, gd⟩ = some true) (hv : vals σ op.operands.toList = some vs) [hm : MW P w0 W H op vs v c] (hdN : Nat.blt d N = true) (hc : c) (h : HdJ F n P N ds w0 W H ops rest ((d, v) :: σ) T) :
    HdJ F n P N ds w0 W H ops (⟨some d, op, ty, pos, aft, gd⟩ :: rest) σ T := h_run rfl hdN hw (fun _ _ hk => hm.h hc hv hdN hk) h
/-- How many operations stand ahead of the first that writes. -/
def quietB : Op → Bool
  | .store .. | .alloc .. | .box .. | .buildSlice .. | .mapUpdate .. | .entryStore .. => false
  | .call ⟨.builtin .append, _, _⟩ => false
  | _ => true
def lead : List Oper → Nat
  | [] => 0
  | o :: r => match o.dst, quietB o.op with
    | some _, true => lead r + 1
    | _, _ => 0
theorem c_drw {id : Nat} {l : List Oper} {m : Nat} [hF : Wide F] (hm : lead l = m) (hmx : P.follows .mixedOrders = true) (hok : drawOk l.toArray m = true)
    (h : HdJ F n P N ds w0 W H l.toArray (l.take m) σ (fun τ => J N ds w0 W τ H (wpListIn F n P l.toArray Q (l.drop m)))) : J N ds w0 W σ H ((Code.region id l.toArray true).wpIn F n P Q) := c_draw m hmx hok h
theorem lbd [Wide F] {t sz bs : Nat} {z : Value} {pl : List (Nat × Nat)} {parts : Array (Nat × Operand)} {us : List (Nat × Value)} {zs cs : List Value} [Pl P t pl] [Inf P t sz bs z] (hw : wantd ops σ ⟨some d, .build t parts, ty, pos, aft, gd⟩ = some true) (hv : evs σ parts.toList = some us)
    [hz : ZC z zs] [hl : Laid pl zs us cs] (hf : Instr.fill (pl.toArray[·]?) z.cells us = some (fillL pl z.cells.toList us).toArray) (hdN : Nat.blt d N = true)
    (h : J N ds w0 W ((d, .agg cs.toArray) :: σ) H (wpListIn F n P ops Q rest)) : J N ds w0 W σ H (wpListIn F n P ops Q (⟨some d, .build t parts, ty, pos, aft, gd⟩ :: rest)) := l_run hw (r_build hv (by rw [hz.h]; exact hl.h) hf hdN h)
theorem lsl [Wide F] {t e sz bs len : Nat} {z : Value} {parts : Array (Nat × Operand)} {us : List (Nat × Value)} {cs : List Value} [Und P t (.slice e)] [Inf P e sz bs z] (hw : wantd ops σ ⟨some d, .buildSlice t len parts, ty, pos, aft, gd⟩ = some true) (hv : evs σ parts.toList = some us)
    [hcs : Flat us cs] (hs : Nat.ble (len * sz) 16777216 = true) (hp : Nat.beq (len * sz) 0 = false)
    (hf : Instr.fill (fun i => some (i * sz, sz)) ((Array.range (len * sz)).map (z.cells[· % z.cells.size]!)) us = some (us.flatMap (fun p => p.2.cells.toList)).toArray) (hl : cs.length = len * sz) (hdN : Nat.blt d N = true)
    (h : ∀ b, J N ds w0 W ((d, .slice (some ⟨b, 0, none⟩) len len) :: σ) (.row (.slice (some ⟨b, 0, none⟩) len len) e sz len cs :: H) (wpListIn F n P ops Q rest)) : J N ds w0 W σ H (wpListIn F n P ops Q (⟨some d, .buildSlice t len parts, ty, pos, aft, gd⟩ :: rest)) := l_run hw (r_slit hv hcs.h hs hp hf hl hdN h)
theorem lsl0 [Wide F] {t e sz bs : Nat} {z : Value} [Und P t (.slice e)] [Inf P e sz bs z] (hw : wantd ops σ ⟨some d, .buildSlice t 0 #[], ty, pos, aft, gd⟩ = some true) (hdN : Nat.blt d N = true)
    (h : ∀ b, J N ds w0 W ((d, .slice (some ⟨b, 0, none⟩) 0 0) :: σ) (.row (.slice (some ⟨b, 0, none⟩) 0 0) e sz 0 [] :: H) (wpListIn F n P ops Q rest)) : J N ds w0 W σ H (wpListIn F n P ops Q (⟨some d, .buildSlice t 0 #[], ty, pos, aft, gd⟩ :: rest)) := l_run hw (r_buildSlice0 hdN h)
end

/-- A row is on the list. -/
class OwnAt (A : Option Addr) (m c : Nat) (H : List HE) (e s : Nat) (xs : outParam (List Value)) (k : outParam (HE → List HE)) : Prop where h : ∃ R, Has H (.row (.slice A m c) e s m xs) R ∧ ∀ x, Sub (k x) (x :: R)
instance (priority := 100) (A : Option Addr) (m c e s : Nat) (xs : List Value) (r : List HE) : OwnAt A m c (.row (.slice A m c) e s m xs :: r) e s xs (fun x => x :: r) := ⟨r, .here _ _, fun _ => Sub.refl _⟩
instance (priority := 10) (A : Option Addr) (m c e s : Nat) (y : HE) (xs : List Value) (r : List HE) (k : HE → List HE) [h : OwnAt A m c r e s xs k] : OwnAt A m c (y :: r) e s xs (fun x => y :: k x) :=
  ⟨let ⟨R, h1, h2⟩ := h.h; ⟨y :: R, .there y h1, fun x => Sub.of_perm_cons (h2 x)⟩⟩
class OwnAny (A : Option Addr) (m c : Nat) (H : List HE) : Prop where h : ∃ e s xs R, Has H (.row (.slice A m c) e s m xs) R
instance (priority := 100) (A : Option Addr) (m c e s : Nat) (xs : List Value) (r : List HE) : OwnAny A m c (.row (.slice A m c) e s m xs :: r) := ⟨e, s, xs, r, .here _ _⟩
instance (priority := 10) (A : Option Addr) (m c : Nat) (y : HE) (r : List HE) [h : OwnAny A m c r] : OwnAny A m c (y :: r) :=
  ⟨let ⟨e, s, xs, R, h1⟩ := h.h; ⟨e, s, xs, y :: R, .there y h1⟩⟩
class RoC (w0 : World) (W : Nat → Prop) (s : Nat) (u : Value) (m : outParam Nat) (xs : outParam (List Value)) : Prop where h : Ro w0 W s u m xs
/-- A slice that reads as xs, in memory that nobody writes. -/
class RoA (w0 : World) (W : Nat → Prop) (A : Option Addr) (m c s : Nat) (xs : outParam (List Value)) : Prop where h : Ro w0 W s (.slice A m c) m xs
theorem RoA.at_ {w0 : World} {W : Nat → Prop} {A : Option Addr} {m c s : Nat} {xs : List Value} (h : RoA w0 W A m c s xs) (hm : 0 < m) : ∃ b off, A = some ⟨b, off, none⟩ ∧ RoAt w0 W b off xs := by
  obtain ⟨A', c', h1, -, -, -, h2⟩ := h.h
  injection h1 with e1 e2 e3
  obtain ⟨b, off, h3, h4, h5, h6⟩ := h2 hm
  exact ⟨b, off, by rw [e1, h3], ⟨h4, h5, h6⟩⟩
instance (priority := 100) (w0 : World) (W : Nat → Prop) (b off q : Nat) (xs : List Value) (v : Value) (c : Prop) [h : RoAt w0 W b off xs] [he : Elem xs q v c] : RoGet w0 W b (off + q) v c := ⟨fun hc => ⟨h.h.1, h.h.2.1, h.h.2.2 q v (he.h hc)⟩⟩
instance (priority := 50) (w0 : World) (W : Nat → Prop) (b off : Nat) (xs : List Value) (v : Value) (c : Prop) [h : RoAt w0 W b off xs] [he : Elem xs 0 v c] : RoGet w0 W b off v c := ⟨fun hc => ⟨h.h.1, h.h.2.1, h.h.2.2 0 v (he.h hc)⟩⟩
class SrcC (w0 : World) (W : Nat → Prop) (H : List HE) (e s : Nat) (u : Value) (m : outParam Nat) (xs : outParam (List Value)) : Prop where h : ∀ w, St w0 W H w → Src w0 W H s u m xs
instance (w0 : World) (W : Nat → Prop) (H : List HE) (A : Option Addr) (m c e s : Nat) (xs : List Value) (k : HE → List HE) [h : OwnAt A m c H e s xs k] : SrcC w0 W H e s (.slice A m c) m xs := ⟨fun _ hw => let ⟨_, h1, _⟩ := h.h; Src.row hw h1⟩
instance (w0 : World) (W : Nat → Prop) (H : List HE) (u : Value) (m e s : Nat) (xs : List Value) [h : RoC w0 W s u m xs] : SrcC w0 W H e s u m xs := ⟨fun _ _ => h.h.src _⟩
instance (w0 : World) (W : Nat → Prop) (H : List HE) (A : Option Addr) (m c e s : Nat) (xs : List Value) [h : RoA w0 W A m c s xs] : SrcC w0 W H e s (.slice A m c) m xs := ⟨fun _ _ => h.h.src _⟩
class AppI (xs ys : List Value) (zs : outParam (List Value)) : Prop where h : xs ++ ys = zs
instance (k : IntKind) (a b : List Int) : AppI (ints k a) (ints k b) (ints k (a ++ b)) := ⟨by simp [ints]⟩
instance (k : IntKind) (a : List Int) (v : Int) : AppI (ints k a) [.int k v] (ints k (a ++ [v])) := ⟨by simp [ints]⟩
instance (priority := 200) (b : List Value) : AppI [] b b := ⟨rfl⟩
instance (k : IntKind) (v : Int) : AppI [] [.int k v] (ints k [v]) := ⟨rfl⟩
class LenOf (xs : List Value) (s : Nat) (m : outParam Nat) : Prop where h : ∀ j, xs.length = j * s → j = m
instance (k : IntKind) (a : List Int) : LenOf (ints k a) 1 a.length := ⟨fun j h => by simpa using h.symm⟩
/-- Truth values as cells. -/
def bls (ys : List Bool) : List Value := ys.map .bool
@[simp] theorem bls_len (ys : List Bool) : (bls ys).length = ys.length := by simp [bls]
instance (priority := 100) (ys : List Bool) (q : Nat) : Elem (bls ys) q (.bool (ys.getD q false)) (q < ys.length) := ⟨fun h => by simp [bls, List.getD_eq_getElem?_getD, h]⟩
instance (priority := 100) (ys : List Bool) (q : Nat) (e : Bool) : ESet (bls ys) q (.bool e) (bls (ys.set q e)) (q < ys.length) := ⟨fun h => by simp [bls, h]⟩
instance (a b : List Bool) : AppI (bls a) (bls b) (bls (a ++ b)) := ⟨by simp [bls]⟩
instance (a : List Bool) (v : Bool) : AppI (bls a) [.bool v] (bls (a ++ [v])) := ⟨by simp [bls]⟩
instance (v : Bool) : AppI [] [.bool v] (bls [v]) := ⟨rfl⟩
instance (a : List Bool) : LenOf (bls a) 1 a.length := ⟨fun j h => by simpa using h.symm⟩
class OneL (xs : List Value) : Prop where h : ∀ u ∈ xs, u.oneCell' = true
instance (k : IntKind) (a : List Int) : OneL (ints k a) := ⟨by simp [ints, Value.oneCell']⟩
instance (a : List Bool) : OneL (bls a) := ⟨fun u hu => by obtain ⟨b, -, rfl⟩ := List.mem_map.1 hu; rfl⟩
instance : OneL [] := ⟨by simp⟩
instance (v : Value) (r : List Value) [h : One v] [k : OneL r] : OneL (v :: r) := ⟨by intro u hu; rcases List.mem_cons.1 hu with rfl | hu; exact h.h; exact k.h u hu⟩
section
variable {F : Fence} {n : Nat} {P : Program} {N : Nat} {ds : List Deferred} {w0 : World} {W : Nat → Prop} {σ : List (Nat × Value)} {H : List HE} {Q : Exit → Act → World → Prop} {k k' : Act → World → Prop}
variable {ops : Array Oper} {rest : List Oper} {d : Nat} {op : Op} {ty : TypeId} {pos : String} {aft : Array Edge} {gd : Option (Nat × Bool)} {vs : List Value} {v : Value} {c : Prop} {H' : List HE}
theorem lap [Wide F] {t e size bytes m m' cc j : Nat} {z u : Value} {x y : Operand} {A : Option Addr} {xs news xs' : List Value} {kk : HE → List HE} [Und P t (.slice e)] [Inf P e size bytes z]
    (hw : wantd ops σ ⟨some d, .call ⟨.builtin .append, #[x, y], #[t, t]⟩, ty, pos, aft, gd⟩ = some true) (hx : ev σ x = some (.slice A m cc)) (hy : ev σ y = some u)
    [ho : OwnAt A m cc H e size xs kk] [hs : SrcC w0 W H e size u j news] [ha : AppI xs news xs'] [hl : LenOf xs' size m'] [h1 : OneL news] (hzs : Nat.beq z.cells.size size = true) (hsz : Nat.blt 0 size = true)
    (hc : m + j ≤ 4611686018427387904 ∧ (m + j) * bytes ≤ 140737488355328) (hdN : Nat.blt d N = true)
    (h : ∀ A' c', J N ds w0 W ((d, .slice A' m' c') :: σ) (kk (.row (.slice A' m' c') e size m' xs')) (wpListIn F n P ops Q rest)) :
    J N ds w0 W σ H (wpListIn F n P ops Q (⟨some d, .call ⟨.builtin .append, #[x, y], #[t, t]⟩, ty, pos, aft, gd⟩ :: rest)) := by
  obtain ⟨R, h2, h3⟩ := ho.h
  intro a w ham hw0
  have e1 : xs.length = m * size := (hw0.has h2).1
  have e2 : news.length = j * size := let ⟨_, _, _, _, _, hh, _⟩ := hs.h w hw0; hh
  have e3 : m + j = m' := hl.h _ (by rw [← ha.h, List.length_append, e1, e2, Nat.add_mul])
  exact l_run hw (r_append hx hy h2 hs.h h1.h hzs hsz (by have := hc.1; simp only [maxLen]; omega) hc.2 hdN (fun A' c' => by rw [e3, ha.h]; exact j_perm (h3 _) (h A' c'))) a w ham hw0
/-- A row that is not empty lies somewhere. -/
theorem j_opn {A : Option Addr} {m cc : Nat} [ho : OwnAny A m cc H] (hpos : 0 < m) (h : ∀ g, A = some ⟨g, 0, none⟩ → J N ds w0 W σ H k) : J N ds w0 W σ H k :=
  let ⟨_, _, _, _, h1⟩ := ho.h
  j_open h1 hpos h
theorem lix {A : Option Addr} {m cc t : Nat} {x y : Operand} (hx : ev σ x = some (.slice A m cc)) [ho : OwnAny A m cc H] (hpos : 0 < m) (h : ∀ g, A = some ⟨g, 0, none⟩ → J N ds w0 W σ H (wpListIn F n P ops Q (⟨some d, .indexAddr t x y, ty, pos, aft, gd⟩ :: rest))) :
    J N ds w0 W σ H (wpListIn F n P ops Q (⟨some d, .indexAddr t x y, ty, pos, aft, gd⟩ :: rest)) := j_opn (cc := cc) hpos h
theorem lixr {A : Option Addr} {m cc t s : Nat} {xs : List Value} {x y : Operand} (hx : ev σ x = some (.slice A m cc)) (ho : RoA w0 W A m cc s xs) (hpos : 0 < m) (h : ∀ b off, A = some ⟨b, off, none⟩ → RoAt w0 W b off xs → J N ds w0 W σ H (wpListIn F n P ops Q (⟨some d, .indexAddr t x y, ty, pos, aft, gd⟩ :: rest))) :
    J N ds w0 W σ H (wpListIn F n P ops Q (⟨some d, .indexAddr t x y, ty, pos, aft, gd⟩ :: rest)) := let ⟨b, off, h1, h2⟩ := ho.at_ hpos; h b off h1 h2
theorem Split.all (x : HE) : ∀ (S : List HE), Split (x :: S) S [x]
  | [] => .nil _
  | y :: r => .cons (.there x (.here y r)) (Split.all x r)
theorem Sub.swap1 (x : HE) (S : List HE) : Sub (x :: S) (S ++ [x]) := by
  have h : ∀ S : List HE, Has (S ++ [x]) x S := by
    intro S
    induction S with
    | nil => exact .here _ _
    | cons y r ih => exact .there y ih
  exact .cons (h S) (Sub.refl S)
/-- A call of a function. -/
theorem lfn [Wide F] [WF F] {dst : Nat} {f : FuncId} {args : Array Operand} {ts : Array TypeId} {us : List Value} [Cl P f] {S R : List HE} {Rl : Value → List HE → Prop}
    (hw : wantd ops σ ⟨some dst, .call ⟨.value (.func f), args, ts⟩, ty, pos, aft, gd⟩ = some true) (hv : vals σ args.toList = some us) (hs : Split H S R) (hdN : Nat.blt dst N = true)
    (hc : ∀ w, St w0 W H w → Own S w → Does P f us S w Rl) (h : ∀ v S', Rl v S' → J N ds w0 W ((dst, v) :: σ) (S' ++ R) (wpListIn F n P ops Q rest)) :
    J N ds w0 W σ H (wpListIn F n P ops Q (⟨some dst, .call ⟨.value (.func f), args, ts⟩, ty, pos, aft, gd⟩ :: rest)) := l_run hw (r_fn hv hs hdN hc h)
/-- A call that yields just this value and gives back what it was given. -/
theorem lfk [Wide F] [WF F] {dst : Nat} {f : FuncId} {args : Array Operand} {ts : Array TypeId} {us : List Value} [Cl P f] {v : Value} {S R : List HE}
    (hw : wantd ops σ ⟨some dst, .call ⟨.value (.func f), args, ts⟩, ty, pos, aft, gd⟩ = some true) (hv : vals σ args.toList = some us) (hs : Split H S R) (hb : Sub H (S ++ R)) (hdN : Nat.blt dst N = true)
    (hc : ∀ w, St w0 W H w → Own S w → Does P f us S w fun u S' => u = v ∧ S' = S) (h : J N ds w0 W ((dst, v) :: σ) H (wpListIn F n P ops Q rest)) :
    J N ds w0 W σ H (wpListIn F n P ops Q (⟨some dst, .call ⟨.value (.func f), args, ts⟩, ty, pos, aft, gd⟩ :: rest)) := l_run hw (r_fnk S hv hs hb hdN hc h)
/-- A call that yields just this value and is given nothing. -/
theorem lfv [Wide F] [WF F] {dst : Nat} {f : FuncId} {args : Array Operand} {ts : Array TypeId} {us : List Value} [Cl P f] {v : Value}
    (hw : wantd ops σ ⟨some dst, .call ⟨.value (.func f), args, ts⟩, ty, pos, aft, gd⟩ = some true) (hv : vals σ args.toList = some us) (hdN : Nat.blt dst N = true)
    (hc : ∀ w, St w0 W H w → Does P f us [] w fun u S' => u = v ∧ S' = []) (h : J N ds w0 W ((dst, v) :: σ) H (wpListIn F n P ops Q rest)) :
    J N ds w0 W σ H (wpListIn F n P ops Q (⟨some dst, .call ⟨.value (.func f), args, ts⟩, ty, pos, aft, gd⟩ :: rest)) := l_run hw (r_fnv hv hdN hc h)
/-- The same in the midst of a region that draws. -/
theorem hfk [Wide F] [WF F] {dst : Nat} {f : FuncId} {args : Array Operand} {ts : Array TypeId} {us : List Value} [Cl P f] {v : Value} {S R : List HE} {T : List (Nat × Value) → Prop}
    (hw : wantd ops σ ⟨some dst, .call ⟨.value (.func f), args, ts⟩, ty, pos, aft, gd⟩ = some true) (hv : vals σ args.toList = some us) (hs : Split H S R) (hb : Sub H (S ++ R)) (hdN : Nat.blt dst N = true)
    (hc : ∀ w, St w0 W H w → Own S w → Does P f us S w fun u S' => u = v ∧ S' = S) (h : HdJ F n P N ds w0 W H ops rest ((dst, v) :: σ) T) :
    HdJ F n P N ds w0 W H ops (⟨some dst, .call ⟨.value (.func f), args, ts⟩, ty, pos, aft, gd⟩ :: rest) σ T := h_run rfl hdN hw (fun _ _ hk => r_fnk S hv hs hb hdN hc hk) h
theorem hfv [Wide F] [WF F] {dst : Nat} {f : FuncId} {args : Array Operand} {ts : Array TypeId} {us : List Value} [Cl P f] {v : Value} {T : List (Nat × Value) → Prop}
    (hw : wantd ops σ ⟨some dst, .call ⟨.value (.func f), args, ts⟩, ty, pos, aft, gd⟩ = some true) (hv : vals σ args.toList = some us) (hdN : Nat.blt dst N = true)
    (hc : ∀ w, St w0 W H w → Does P f us [] w fun u S' => u = v ∧ S' = []) (h : HdJ F n P N ds w0 W H ops rest ((dst, v) :: σ) T) :
    HdJ F n P N ds w0 W H ops (⟨some dst, .call ⟨.value (.func f), args, ts⟩, ty, pos, aft, gd⟩ :: rest) σ T := h_run rfl hdN hw (fun _ _ hk => r_fnv hv hdN hc hk) h
class AppC (S R : List HE) (O : outParam (List HE)) : Prop where h : S ++ R = O
instance (R : List HE) : AppC [] R R := ⟨rfl⟩
instance (x : HE) (S R O : List HE) [h : AppC S R O] : AppC (x :: S) R (x :: O) := ⟨by rw [List.cons_append, h.h]⟩
theorem j_app {S R O : List HE} [ho : AppC S R O] (h : J N ds w0 W σ O k) : J N ds w0 W σ (S ++ R) k := by rw [ho.h]; exact h
end
end Go.Proofs.YtemmnpgebpffbaaGreat
/- The engine: a region that draws its order, in which operations that only reckon stand beside a chain of others. -/
namespace Go.Proofs.YtemmnpgebpffbaaGreat
open Go.RowKit

/-- A step that only reckons: v, whatever the world. -/
class PV (P : Program) (op : Op) (vs : List Value) (v : outParam Value) (c : outParam Prop) : Prop where
  h : c → ∀ (ρ : Operand → Value) (o : Oper), o.op = op → op.operands.toList.map ρ = vs → ∀ w, (execOp ρ o).run P w = .ok (.value v) w
theorem map1 {ρ : Operand → Value} {x : Operand} {v : Value} (h : [x].map ρ = [v]) : ρ x = v := by simpa using h
theorem map2 {ρ : Operand → Value} {x y : Operand} {u v : Value} (h : [x, y].map ρ = [u, v]) : ρ x = u ∧ ρ y = v := by simpa using h
section
variable {P : Program}
theorem pv_bin {op : BinOp} {t u : TypeId} {x y : Operand} {k : IntKind} {a b : Int} {v : Value} (hv : binv op k a b = some v) : ∀ (ρ : Operand → Value) (o : Oper), o.op = .binOp op t x y u → (Op.binOp op t x y u).operands.toList.map ρ = [.int k a, .int k b] → ∀ w, (execOp ρ o).run P w = .ok (.value v) w := by
  rintro ρ ⟨dst, op', ty, pos, aft, gd⟩ rfl h w
  obtain ⟨h1, h2⟩ := map2 h
  have := run_binv (P := P) hv t x y w
  simp only [execOp, h1, h2]
  rw [Sem.run_bind, this]; rfl
instance (x : Operand) (v : Value) : PV P (.move x) [v] v True := ⟨by rintro _ ρ ⟨dst, op', ty, pos, aft, gd⟩ rfl h w; simp [execOp, map1 h]⟩
instance (x : Operand) (v : Value) : PV P (.assign x) [v] v True := ⟨by rintro _ ρ ⟨dst, op', ty, pos, aft, gd⟩ rfl h w; simp [execOp, map1 h]⟩
instance (t u : TypeId) (x y : Operand) (k : IntKind) (a b : Int) : PV P (.binOp .add t x y u) [.int k a, .int k b] (.int k (a + b)) (InR k (a + b)) := ⟨fun hc => pv_bin (by simp [binv, wrap_in hc])⟩
instance (t u : TypeId) (x y : Operand) (k : IntKind) (a b : Int) : PV P (.binOp .sub t x y u) [.int k a, .int k b] (.int k (a - b)) (InR k (a - b)) := ⟨fun hc => pv_bin (by simp [binv, wrap_in hc])⟩
instance (t u : TypeId) (x y : Operand) (k : IntKind) (a b : Int) : PV P (.binOp .mul t x y u) [.int k a, .int k b] (.int k (a * b)) (InR k (a * b)) := ⟨fun hc => pv_bin (by simp [binv, wrap_in hc])⟩
instance (t u : TypeId) (x y : Operand) (k : IntKind) (a b : Int) : PV P (.binOp .eql t x y u) [.int k a, .int k b] (.bool (a == b)) True := ⟨fun _ => pv_bin rfl⟩
instance (t u : TypeId) (x y : Operand) (k : IntKind) (a b : Int) : PV P (.binOp .neq t x y u) [.int k a, .int k b] (.bool (a != b)) True := ⟨fun _ => pv_bin rfl⟩
instance (t u : TypeId) (x y : Operand) (k : IntKind) (a b : Int) : PV P (.binOp .lss t x y u) [.int k a, .int k b] (.bool (decide (a < b))) True := ⟨fun _ => pv_bin rfl⟩
instance (t u : TypeId) (x y : Operand) (k : IntKind) (a b : Int) : PV P (.binOp .leq t x y u) [.int k a, .int k b] (.bool (decide (a ≤ b))) True := ⟨fun _ => pv_bin rfl⟩
instance (t u : TypeId) (x y : Operand) (k : IntKind) (a b : Int) : PV P (.binOp .gtr t x y u) [.int k a, .int k b] (.bool (decide (b < a))) True := ⟨fun _ => pv_bin rfl⟩
instance (t u : TypeId) (x y : Operand) (k : IntKind) (a b : Int) : PV P (.binOp .geq t x y u) [.int k a, .int k b] (.bool (decide (b ≤ a))) True := ⟨fun _ => pv_bin rfl⟩
theorem pv_shl {t u : TypeId} {x y : Operand} {k k' : IntKind} {a b : Int} (hb : 0 ≤ b) : ∀ (ρ : Operand → Value) (o : Oper), o.op = .binOp .shl t x y u → (Op.binOp .shl t x y u).operands.toList.map ρ = [.int k a, .int k' b] → ∀ w, (execOp ρ o).run P w = .ok (.value (.int k (k.wrap (a * 2 ^ (min b.toNat k.bits))))) w := by
  rintro ρ ⟨dst, op', ty, pos, aft, gd⟩ rfl h w
  obtain ⟨h1, h2⟩ := map2 h
  simp [execOp, h1, h2, eqGuard, binOp, Op.shift, show ¬ b < 0 by omega]
instance (priority := 10) (t u : TypeId) (x y : Operand) (k k' : IntKind) (a b : Int) : PV P (.binOp .shl t x y u) [.int k a, .int k' b] (.int k (a * 2 ^ b.toNat)) (0 ≤ b ∧ LeB k b.toNat ∧ InR k (a * 2 ^ b.toNat)) := ⟨fun hc ρ o ho h w => by rw [pv_shl hc.1 ρ o ho h w, Nat.min_eq_left (leB hc.2.1), wrap_in hc.2.2]⟩
/-- A shift to the left that loses nothing. -/
def shL (a b : Nat) : Nat := a * 2 ^ b
instance (priority := 100) (t u : TypeId) (x y : Operand) (k k' : IntKind) (a b : Nat) : PV P (.binOp .shl t x y u) [.int k (a : Int), .int k' (b : Int)] (.int k (shL a b : Nat)) (LeB k b ∧ InR k (shL a b : Nat)) := ⟨fun hc ρ o ho h w => by
  have e : ((shL a b : Nat) : Int) = (a : Int) * 2 ^ b := by simp [shL]
  rw [pv_shl (by omega) ρ o ho h w, Int.toNat_natCast, Nat.min_eq_left (leB hc.1), ← e, wrap_in hc.2]⟩
instance (s t : TypeId) (x : Operand) (k k' : IntKind) (a : Int) (dd : TypeDesc) [hs : Und P s dd] [ht : Und P t (.int k')] : PV P (.convert s t x) [.int k a] (.int k' a) (InR k' a) := ⟨by
  rintro hc ρ ⟨dst, op', ty, pos, aft, gd⟩ rfl h w
  simp [execOp, map1 h, convert, run_underlying hs.h, run_underlying ht.h, Conv.intToInt, wrap_in hc]⟩
instance (t : TypeId) (x : Operand) (a : Bool) : PV P (.unOp .not t x) [.bool a] (.bool (!a)) True := ⟨by rintro _ ρ ⟨dst, op', ty, pos, aft, gd⟩ rfl h w; simp [execOp, map1 h, Op.unary]⟩
instance (x : Operand) (t e : TypeId) (A : Option Addr) (m c : Nat) [hu : Und P t (.slice e)] : PV P (.call ⟨.builtin .len, #[x], #[t]⟩) [.slice A m c] (.int .i64 m) True := ⟨by
  rintro _ ρ ⟨dst, op', ty, pos, aft, gd⟩ rfl h w
  have h1 := map1 (x := x) (by simpa [Op.operands, Call.operands] using h)
  simp [execOp, h1, resolve, invoke, builtin, Builtin.len_, run_underlying hu.h, goInt]⟩
instance (x : Operand) (i : Nat) (vs : List Value) (v : Value) [hg : Get vs i v] : PV P (.extract x i) [.tuple vs.toArray] v True := ⟨by
  rintro _ ρ ⟨dst, op', ty, pos, aft, gd⟩ rfl h w
  have := hg.h
  simp [execOp, map1 h, Instr.extract, this]⟩
end

/-- An operation that yields v, whatever the world. -/
def PQ (P : Program) (σ : List (Nat × Value)) (o : Oper) (v : Value) : Prop :=
  ∀ ρ : Operand → Value, (∀ x ∈ o.op.operands.toList, ∀ u, ev σ x = some u → ρ x = u) → ∀ w, (execOp ρ o).run P w = .ok (.value v) w
theorem pq_of {P : Program} {σ : List (Nat × Value)} {o : Oper} {vs : List Value} {v : Value} {c : Prop} [hp : PV P o.op vs v c] (hv : vals σ o.op.operands.toList = some vs) (hc : c) : PQ P σ o v := by
  intro ρ h w
  refine hp.h hc ρ o rfl ?_ w
  have key : ∀ (l : List Operand) (vs : List Value), vals σ l = some vs → (∀ x ∈ l, ∀ u, ev σ x = some u → ρ x = u) → l.map ρ = vs := by
    intro l
    induction l with
    | nil => intro vs hv _; simp [vals] at hv; simp [hv]
    | cons x r ih =>
      intro vs hv h
      simp only [vals] at hv
      cases hx : ev σ x with
      | none => simp [hx] at hv
      | some u =>
        cases hr : vals σ r with
        | none => simp [hx, hr] at hv
        | some us =>
          simp [hx, hr] at hv
          subst hv
          rw [List.map_cons, h x (List.mem_cons_self ..) u hx, ih us hr fun y hy => h y (List.mem_cons_of_mem _ hy)]
  exact key _ _ hv h

/-- Those of a list that a mask lets by; those that it does not. -/
def byMask {α : Type} : List Bool → List α → List α
  | true :: m, x :: r => x :: byMask m r
  | false :: m, _ :: r => byMask m r
  | _, _ => []
def offMask {α : Type} : List Bool → List α → List α
  | true :: m, _ :: r => offMask m r
  | false :: m, x :: r => x :: offMask m r
  | _, _ => []

/-- Operations that only reckon, in the text's order. -/
def HdP (P : Program) (N : Nat) (ops : Array Oper) : List Oper → List (Nat × Value) → (List (Nat × Value) → Prop) → Prop
  | [], σ, T => T σ
  | o :: rest, σ, T => ∃ d v, o.dst = some d ∧ d < N ∧ ((wantd ops σ o = some true ∧ PQ P σ o v) ∨ (wantd ops σ o = some false ∧ v = undef)) ∧ HdP P N ops rest ((d, v) :: σ) T
theorem p_nil {P : Program} {N : Nat} {ops : Array Oper} {σ : List (Nat × Value)} {T : List (Nat × Value) → Prop} (h : T σ) : HdP P N ops [] σ T := h
theorem p_run {P : Program} {N : Nat} {ops : Array Oper} {σ : List (Nat × Value)} {T : List (Nat × Value) → Prop} {rest : List Oper} {d : Nat} {op : Op} {ty : TypeId} {pos : String} {aft : Array Edge} {gd : Option (Nat × Bool)} {vs : List Value} {v : Value} {c : Prop}
    (hw : wantd ops σ ⟨some d, op, ty, pos, aft, gd⟩ = some true) (hv : vals σ op.operands.toList = some vs) [hp : PV P op vs v c] (hdN : Nat.blt d N = true) (hc : c) (h : HdP P N ops rest ((d, v) :: σ) T) : HdP P N ops (⟨some d, op, ty, pos, aft, gd⟩ :: rest) σ T :=
  ⟨d, v, rfl, by simpa using hdN, .inl ⟨hw, pq_of (vs := vs) (c := c) hv hc⟩, h⟩
theorem p_skip {P : Program} {N : Nat} {ops : Array Oper} {σ : List (Nat × Value)} {T : List (Nat × Value) → Prop} {rest : List Oper} {d : Nat} {o : Oper} (hd : o.dst = some d) (hdN : Nat.blt d N = true) (hw : wantd ops σ o = some false) (h : HdP P N ops rest ((d, undef) :: σ) T) : HdP P N ops (o :: rest) σ T :=
  ⟨d, undef, hd, by simpa using hdN, .inr ⟨hw, rfl⟩, h⟩

/-- Just the normal way out. -/
def nq (Q : Exit → Act → World → Prop) : Exit → Act → World → Prop
  | .normal => Q .normal
  | _ => fun _ _ => False
instance {Q : Exit → Act → World → Prop} : CC (nq Q .normal) (Q .normal) := ⟨fun h => h⟩

def mAt (mask : List Bool) (i : Nat) : Bool := mask.getD i false
def dstAt (ops : Array Oper) (j : Nat) : Option Nat := (ops[j]?).bind (·.dst)
def hvIdx (ops : Array Oper) (mask : List Bool) : List Nat := (List.range ops.size).filter fun i => !mAt mask i
def pvIdx (ops : Array Oper) (mask : List Bool) : List Nat := (List.range ops.size).filter fun i => mAt mask i
def opsAt (ops : Array Oper) (l : List Nat) : List Oper := l.filterMap (ops[·]?)
def chainB (ops : Array Oper) : List Nat → Bool
  | a :: b :: r => edgeB ops b a && chainB ops (b :: r)
  | _ => true
/-- The mask is right. -/
def maskOk (ops : Array Oper) (mask : List Bool) : Bool :=
  mask.length == ops.size &&
  ((List.range ops.size).all fun i => backB ops i) &&
  ((List.range ops.size).all fun i => match ops[i]? with
    | none => true
    | some o => plainB o && ((List.range ops.size).all fun j => match dstAt ops j with
        | none => true
        | some d => (match mAt mask i || mAt mask j, Nat.beq i j with | true, false => o.dst != some d | _, _ => true) &&
            (!(o.looksAt ops).contains d || (match mAt mask i, mAt mask j with
              | _, true => Nat.blt j i && edgeB ops i j
              | true, false => false
              | false, false => true))) &&
        (!mAt mask i || o.dst.isSome)) &&
  chainB ops (hvIdx ops mask)

/-- A mask that lets by what only reckons, from what only reckons. -/
def pureOp : Op → Bool
  | .move _ | .assign _ | .convert .. | .extract .. => true
  | .binOp op .. => match op with | .add | .sub | .mul | .eql | .neq | .lss | .leq | .gtr | .geq | .shl => true | _ => false
  | .unOp op .. => match op with | .not => true | _ => false
  | .call ⟨.builtin .len, _, _⟩ => true
  | _ => false
def maskOf (ops : Array Oper) : List Oper → List Nat → List Bool
  | [], _ => []
  | o :: r, hv => match pureOp o.op && !((o.looksAt ops).any fun t => hv.contains t), o.dst with
    | true, some _ => true :: maskOf ops r hv
    | _, some d => false :: maskOf ops r (d :: hv)
    | _, none => false :: maskOf ops r hv

structure Sim (N : Nat) (ops : Array Oper) (mask : List Bool) (V : Nat → Option (Nat × Value)) (L : Nat → Option Value) (listed : Array Bool) (a b : Act) : Prop where
  sa : a.tmps.size = N
  sb : b.tmps.size = N
  df : a.defers = b.defers
  ag : ∀ t, (∀ j d, mAt mask j = true → dstAt ops j = some d → listed[j]? = some false → d ≠ t) → a.tmps[t]? = b.tmps[t]?
  bv : ∀ j d v, V j = some (d, v) → b.tmps[d]? = some v
  ob : ∀ t u, L t = some u → (∀ k, mAt mask k = false → dstAt ops k ≠ some t) → b.tmps[t]? = some u

theorem chain_pred {ops : Array Oper} : ∀ (l : List Nat) (k i : Nat), chainB ops (k :: l) = true → i ∈ l → ∃ p ∈ k :: l, edgeB ops i p = true
  | [], k, i, _, hi => by cases hi
  | x :: r, k, i, h, hi => by
    simp only [chainB, Bool.and_eq_true] at h
    rcases List.mem_cons.1 hi with rfl | hi
    · exact ⟨k, List.mem_cons_self .., h.1⟩
    · obtain ⟨p, hp, he⟩ := chain_pred r x i h.2 hi
      exact ⟨p, List.mem_cons_of_mem _ hp, he⟩
theorem chain_tail {ops : Array Oper} {k : Nat} {l : List Nat} (h : chainB ops (k :: l) = true) : chainB ops l = true := by
  cases l with
  | nil => rfl
  | cons x r => simp only [chainB, Bool.and_eq_true] at h; exact h.2

theorem uponIn_sim {F : Fence} {n : Nat} {P : Program} {o : Oper} {a b : Act} {K K' : Act → World → Prop} {Q : Exit → Act → World → Prop} {r : Result Next}
    (h : o.uponIn F n P b K (nq Q) r) (hK : ∀ v w', K (b.put o.dst v) w' → K' (a.put o.dst v) w') (hd : ∀ x w', K (({ b with defers := x :: b.defers } : Act).put o.dst undef) w' → K' (({ a with defers := x :: a.defers } : Act).put o.dst undef) w') : o.uponIn F n P a K' Q r := by
  have key : ∀ (v : Ending) (w' : World), (match v, w' with
    | .returned v, w'' => K (b.put o.dst v) w''
    | .panicked chain, w'' => nq Q (.panic chain) b w''
    | .outgrown, _ => LetsOut (nq Q)) → (match v, w' with
    | .returned v, w'' => K' (a.put o.dst v) w''
    | .panicked chain, w'' => Q (.panic chain) a w''
    | .outgrown, _ => LetsOut Q) := by
    intro v w' hv
    cases v with
    | returned v => exact hK _ _ hv
    | panicked c => exact False.elim hv
    | outgrown => obtain ⟨_, _, h0⟩ := hv; exact False.elim h0
  cases r with
  | ok x w' =>
    cases x <;> simp only [Oper.uponIn] at h ⊢
    case value v => exact hK _ _ h
    case skip => exact hK _ _ h
    case enter f args => exact ⟨h.1, h.2.mono key⟩
    case round l f t a b => exact ⟨h.1, h.2.mono key⟩
    case defer d => exact hd _ _ h
    case row r args => exact ⟨h.1, h.2.mono fun v w' hv => hK _ _ hv⟩
  | halt x w' =>
    cases x <;> simp only [Oper.uponIn] at h ⊢
    exact False.elim h

theorem anyP {F : Fence} {n : Nat} {P : Program} {N : Nat} {Q : Exit → Act → World → Prop} {ops : Array Oper} {mask : List Bool} {V : Nat → Option (Nat × Value)} {L : Nat → Option Value} [hF : Wide F]
    (hback : ∀ i, backB ops i = true) (hplain : ∀ (i : Nat) (o : Oper), ops[i]? = some o → plainB o = true)
    (hdst : ∀ (i j d : Nat), (mAt mask i = true ∨ mAt mask j = true) → i ≠ j → dstAt ops i = some d → dstAt ops j ≠ some d)
    (hlook : ∀ (i : Nat) (o : Oper) (j d : Nat), ops[i]? = some o → dstAt ops j = some d → d ∈ o.looksAt ops → (mAt mask j = true → j < i ∧ edgeB ops i j = true) ∧ (mAt mask i = true → mAt mask j = true))
    (hV : ∀ (i : Nat) (o : Oper), mAt mask i = true → ops[i]? = some o → ∃ d v, V i = some (d, v) ∧ o.dst = some d ∧ d < N ∧
      ∀ a : Act, (∀ t ∈ o.looksAt ops, ∀ u, L t = some u → a.tmps[t]? = some u) → (Region.wanted o (yielded ops a.tmps) = true ∧ ∀ w, (execOp a.eval o).run P w = .ok (.value v) w) ∨ (Region.wanted o (yielded ops a.tmps) = false ∧ v = undef))
    (hVo : ∀ i d v, V i = some (d, v) → mAt mask i = true ∧ dstAt ops i = some d) :
    ∀ (fuel : Nat) (listed : Array Bool) (a b : Act) (w : World) (rest : List Nat), undone listed ops.size ≤ fuel → listed.size = ops.size → (∀ j, j < ops.size → listed[j]? = some true ∨ listed[j]? = some false) →
      (∀ j ∈ rest, j < ops.size ∧ mAt mask j = false ∧ listed[j]? = some false) → (∀ j, j < ops.size → mAt mask j = false → listed[j]? = some false → j ∈ rest) → rest.Nodup → chainB ops rest = true →
      Sim N ops mask V L listed a b → wpListIn F n P ops (nq Q) (opsAt ops rest) b w → wpAnyIn F n P .any ops Q fuel listed a w := by
  have hready : ∀ (listed : Array Bool) (i j : Nat), i ∈ Region.ready .any ops listed → edgeB ops i j = true → (listed[j]? = some true ∨ listed[j]? = some false) → listed[j]? = some true := by
    intro listed i j hi he hl
    obtain ⟨-, o, hio, hie⟩ := mem_ready.1 hi
    unfold edgeB at he
    rw [hio] at he
    simp only [Array.any_eq_true'] at he
    obtain ⟨e, hemem, hee⟩ := he
    simp only [Bool.and_eq_true, beq_iff_eq] at hee
    have := hie e hemem hee.1
    rw [hee.2] at this
    rcases hl with e1 | e1
    · exact e1
    · rw [getD_of_some e1] at this; cases this
  intro fuel
  induction fuel with
  | zero =>
    intro listed a b w rest hu hsz hl hr1 hr2 hnd hch hsim hwp
    have hall := undone_zero hl (by omega)
    have hrest : rest = [] := by
      cases rest with
      | nil => rfl
      | cons x r => have := hr1 x (List.mem_cons_self ..); rw [hall x this.1] at this; cases this.2.2
    subst hrest
    have hab : a = b := by
      have h1 : a.tmps = b.tmps := Array.ext_getElem? fun t => hsim.ag t fun j d _ hd hf => by
        have hjs : j < ops.size := by
          unfold dstAt at hd
          cases ho : ops[j]? with
          | none => simp [ho] at hd
          | some o => exact (Array.getElem?_eq_some_iff.1 ho).1
        rw [hall j hjs] at hf; cases hf
      cases a; cases b; simp at h1; have := hsim.df; simp at this; simp [h1, this]
    subst hab
    have hrd : Region.ready .any ops listed = [] := by
      apply List.eq_nil_iff_forall_not_mem.2
      intro j hj
      obtain ⟨hj1, o, ho, -⟩ := mem_ready.1 hj
      have hjs : j < ops.size := (Array.getElem?_eq_some_iff.1 ho).1
      rw [getD_of_some (hall j hjs)] at hj1
      cases hj1
    exact ⟨hrd, hwp⟩
  | succ fuel ih =>
    intro listed a b w rest hu hsz hl hr1 hr2 hnd hch hsim hwp
    refine ⟨fun hrd => ?_, fun i hi => ?_⟩
    · have hall : ∀ j, j < ops.size → listed[j]? = some true := by
        intro j hj
        rcases hl j hj with e | e
        · exact e
        · exfalso
          obtain ⟨x, hx1, hx2, hx3⟩ := exists_min (p := fun j => listed[j]? = some false) ops.size ⟨j, hj, e⟩
          have := ready_first (ops := ops) (listed := listed) hx1 (hback x) hx2 (fun y hy => (hl y (by omega)).resolve_right (hx3 y hy))
          rw [hrd] at this
          cases this
      have hrest : rest = [] := by
        cases rest with
        | nil => rfl
        | cons x r => have := hr1 x (List.mem_cons_self ..); rw [hall x this.1] at this; cases this.2.2
      subst hrest
      have hab : a = b := by
        have h1 : a.tmps = b.tmps := Array.ext_getElem? fun t => hsim.ag t fun j d _ hd hf => by
          have hjs : j < ops.size := by
            unfold dstAt at hd
            cases ho : ops[j]? with
            | none => simp [ho] at hd
            | some o => exact (Array.getElem?_eq_some_iff.1 ho).1
          rw [hall j hjs] at hf; cases hf
        cases a; cases b; simp at h1; have := hsim.df; simp at this; simp [h1, this]
      subst hab
      exact hwp
    · obtain ⟨hiu, o, hio, -⟩ := mem_ready.1 hi
      have his : i < ops.size := (Array.getElem?_eq_some_iff.1 hio).1
      have hifalse : listed[i]? = some false := by
        rcases hl i his with e | e
        · rw [getD_of_some e] at hiu; cases hiu
        · exact e
      have hus := undone_set his hifalse
      have hl' : ∀ j, j < ops.size → (listed.setIfInBounds i true)[j]? = some true ∨ (listed.setIfInBounds i true)[j]? = some false := by
        intro j hj
        rw [Array.getElem?_setIfInBounds]
        split
        · rw [if_pos (by omega)]; exact .inl rfl
        · exact hl j hj
      have hset : ∀ j, (listed.setIfInBounds i true)[j]? = some false → j ≠ i ∧ listed[j]? = some false := by
        intro j hj
        rw [Array.getElem?_setIfInBounds] at hj
        by_cases e : i = j
        · rw [if_pos e, if_pos (by omega)] at hj; cases hj
        · rw [if_neg e] at hj; exact ⟨fun e' => e e'.symm, hj⟩
      have hset2 : ∀ j, j ≠ i → listed[j]? = some false → (listed.setIfInBounds i true)[j]? = some false := by
        intro j hj h
        rw [Array.getElem?_setIfInBounds, if_neg (fun e => hj e.symm)]; exact h
      have hagree : ∀ t ∈ o.looksAt ops, a.tmps[t]? = b.tmps[t]? := by
        intro t ht
        refine hsim.ag t fun j d hmj hdj hfj e => ?_
        subst e
        have hjs : j < ops.size := by
          unfold dstAt at hdj
          cases ho : ops[j]? with
          | none => simp [ho] at hdj
          | some o => exact (Array.getElem?_eq_some_iff.1 ho).1
        have := hready listed i j hi ((hlook i o j d hio hdj ht).1 hmj).2 (hl j hjs)
        rw [hfj] at this; cases this
      refine wpOpIn_step hio fun K' hK' => ?_
      have hnd' : ∀ c, o.op ≠ .defer c := by
        intro c e
        have := hplain i o hio
        unfold plainB at this; rw [e] at this; cases this
      by_cases hmi : mAt mask i = true
      · obtain ⟨d, v, hVi, hd, hdN, hex⟩ := hV i o hmi hio
        have hdi : dstAt ops i = some d := by simp [dstAt, hio, hd]
        have hsim' : Sim N ops mask V L (listed.setIfInBounds i true) (a.put (some d) v) b := by
          refine ⟨by simp [Act.put, hsim.sa], hsim.sb, by simp [Act.put, hsim.df], fun t ht => ?_, hsim.bv, hsim.ob⟩
          simp only [Act.put, Array.getElem?_setIfInBounds]
          by_cases e : d = t
          · subst e
            rw [if_pos rfl, if_pos (by rw [hsim.sa]; exact hdN), hsim.bv i d v hVi]
          · rw [if_neg e]
            refine hsim.ag t fun j d' hmj hdj hfj => ?_
            by_cases hji : j = i
            · subst hji; rw [hdi] at hdj; injection hdj with hdj; subst hdj; exact e
            · exact ht j d' hmj hdj (hset2 j hji hfj)
        have hnext : K' (a.put (some d) v) w := hK' _ _ (ih _ _ b w rest (by omega) (by simpa using hsz) hl' (fun j hj => by
          obtain ⟨q1, q2, q3⟩ := hr1 j hj
          exact ⟨q1, q2, hset2 j (fun e => by subst e; rw [hmi] at q2; cases q2) q3⟩) (fun j hj hm hf => hr2 j hj hm (hset j hf).2) hnd hch hsim' hwp)
        rcases hex a (fun t ht u hu => by
          rw [hagree t ht]
          exact hsim.ob t u hu fun k hk hdk => by
            have := (hlook i o k t hio hdk ht).2 hmi
            rw [hk] at this; cases this) with ⟨hw1, hrun⟩ | ⟨hw1, hv⟩
        · rw [if_pos hw1]
          refine ⟨fun f _ => hF.out.fn f, ?_⟩
          rw [Oper.semAt_plain F _ _ hnd', hrun w, Oper.uponIn_value, hd]
          exact hnext
        · rw [hw1]
          simp only [Bool.false_eq_true, if_false]
          refine ⟨fun f _ => hF.out.fn f, ?_⟩
          rw [hd, ← hv]
          exact hnext
      · have hmi' : mAt mask i = false := by simpa using hmi
        cases rest with
        | nil => exact absurd (hr2 i his hmi' hifalse) (by simp)
        | cons k r =>
          have hik : i = k := by
            rcases List.mem_cons.1 (hr2 i his hmi' hifalse) with e | e
            · exact e
            · exfalso
              obtain ⟨p, hp, he⟩ := chain_pred r k i hch e
              have hp1 := hr1 p hp
              have := hready listed i p hi he (hl p hp1.1)
              rw [hp1.2.2] at this; cases this
          subst hik
          have hopsAt : opsAt ops (i :: r) = o :: opsAt ops r := by simp [opsAt, hio]
          rw [hopsAt] at hwp
          have hwt : Region.wanted o (yielded ops a.tmps) = Region.wanted o (yielded ops b.tmps) := by
            unfold Region.wanted
            cases hg : o.guard with
            | none => rfl
            | some g =>
              obtain ⟨j, c⟩ := g
              simp only [yielded]
              cases hj : (ops[j]?).bind (·.dst) with
              | none => rfl
              | some t =>
                have : t ∈ o.looksAt ops := by
                  unfold Oper.looksAt
                  rw [hg]
                  exact List.mem_append_right _ (by simp [hj])
                simp only [Option.bind_some, hagree t this]
          have hev : execOp a.eval o = execOp b.eval o := by
            refine execOp_congr o (fun cs c e => ?_) fun x hx => eval_of fun t e => ?_
            · have := hplain i o hio
              unfold plainB at this; rw [e] at this; cases this
            · subst e
              exact hagree t (List.mem_append_left _ (List.mem_filterMap.2 ⟨.tmp t, by simpa using hx, rfl⟩))
          have hsimH : ∀ (a' b' : Act), a'.tmps = a.tmps → b'.tmps = b.tmps → a'.defers = b'.defers → ∀ v, Sim N ops mask V L (listed.setIfInBounds i true) (a'.put o.dst v) (b'.put o.dst v) := by
            intro a' b' ea eb ed v
            cases hd : o.dst with
            | none =>
              refine ⟨by simp [Act.put, ea, hsim.sa], by simp [Act.put, eb, hsim.sb], by simp [Act.put, ed], fun t ht => ?_, fun j d v hj => by simpa [Act.put, eb] using hsim.bv j d v hj, fun t u hu hk => by simpa [Act.put, eb] using hsim.ob t u hu hk⟩
              simp only [Act.put, ea, eb]
              exact hsim.ag t fun j d hmj hdj hfj => ht j d hmj hdj (hset2 j (fun e => by subst e; rw [hmi'] at hmj; cases hmj) hfj)
            | some d =>
              have hdi : dstAt ops i = some d := by simp [dstAt, hio, hd]
              refine ⟨by simp [Act.put, ea, hsim.sa], by simp [Act.put, eb, hsim.sb], by simp [Act.put, ed], fun t ht => ?_, fun j d' v' hj => ?_, fun t u hu hk => ?_⟩
              · simp only [Act.put, ea, eb, Array.getElem?_setIfInBounds, hsim.sa, hsim.sb]
                by_cases e : d = t
                · rw [if_pos e, if_pos e]
                · rw [if_neg e, if_neg e]
                  exact hsim.ag t fun j d hmj hdj hfj => ht j d hmj hdj (hset2 j (fun e => by subst e; rw [hmi'] at hmj; cases hmj) hfj)
              · simp only [Act.put, eb, Array.getElem?_setIfInBounds]
                have hne : d ≠ d' := by
                  obtain ⟨q1, q2⟩ := hVo j d' v' hj
                  intro e; subst e
                  exact hdst i j d (.inr q1) (fun e => by subst e; rw [hmi'] at q1; cases q1) hdi q2
                rw [if_neg hne]; exact hsim.bv j d' v' hj
              · simp only [Act.put, eb, Array.getElem?_setIfInBounds]
                have hne : d ≠ t := fun e => hk i hmi' (by rw [← e]; exact hdi)
                rw [if_neg hne]; exact hsim.ob t u hu hk
          have hnext : ∀ (a' b' : Act), a'.tmps = a.tmps → b'.tmps = b.tmps → a'.defers = b'.defers → ∀ v w', wpListIn F n P ops (nq Q) (opsAt ops r) (b'.put o.dst v) w' → K' (a'.put o.dst v) w' := by
            intro a' b' ea eb ed v w' hh
            have hnd2 := List.nodup_cons.1 hnd
            exact hK' _ _ (ih _ _ _ w' r (by omega) (by simpa using hsz) hl' (fun j hj => by
              obtain ⟨q1, q2, q3⟩ := hr1 j (List.mem_cons_of_mem _ hj)
              exact ⟨q1, q2, hset2 j (fun e => by subst e; exact hnd2.1 hj) q3⟩) (fun j hj hm hf => by
              obtain ⟨q1, q2⟩ := hset j hf
              rcases List.mem_cons.1 (hr2 j hj hm q2) with e | e
              · exact absurd e q1
              · exact e) hnd2.2 (chain_tail hch) (hsimH a' b' ea eb ed v) hh)
          simp only [wpListIn] at hwp
          rw [hwt]
          by_cases hw : Region.wanted o (yielded ops b.tmps) = true
          · rw [if_pos hw] at hwp ⊢
            refine ⟨fun f _ => hF.out.fn f, ?_⟩
            have h2 := hwp.2
            rw [Oper.semAt_plain F _ _ hnd', ← hev] at h2
            rw [Oper.semAt_plain F _ _ hnd']
            exact uponIn_sim h2 (fun v w' hh => hnext a b rfl rfl hsim.df v w' hh) (fun x w' hh => hnext { a with defers := x :: a.defers } { b with defers := x :: b.defers } rfl rfl (by simp [hsim.df]) undef w' hh)
          · rw [if_neg hw] at hwp ⊢
            exact ⟨fun f _ => hF.out.fn f, hnext a b rfl rfl hsim.df undef w hwp.2⟩

theorem HdP.vals {P : Program} {N : Nat} {ops : Array Oper} {T : List (Nat × Value) → Prop} : ∀ (l : List Oper) (σ : List (Nat × Value)), HdP P N ops l σ T →
    ∃ (vs : List (Nat × Value)), vs.length = l.length ∧ T (vs.reverse ++ σ) ∧ ∀ k o, l[k]? = some o → ∃ d v, vs[k]? = some (d, v) ∧ o.dst = some d ∧ d < N ∧
      ((wantd ops ((vs.take k).reverse ++ σ) o = some true ∧ PQ P ((vs.take k).reverse ++ σ) o v) ∨ (wantd ops ((vs.take k).reverse ++ σ) o = some false ∧ v = undef))
  | [], σ, h => ⟨[], rfl, h, by simp⟩
  | o :: rest, σ, h => by
    obtain ⟨d, v, hd, hdN, hq, hr⟩ := h
    obtain ⟨vs, h1, h2, h3⟩ := HdP.vals rest ((d, v) :: σ) hr
    refine ⟨(d, v) :: vs, by simp [h1], by simpa using h2, fun k o' hk => ?_⟩
    cases k with
    | zero =>
      simp at hk; subst hk
      exact ⟨d, v, rfl, hd, hdN, by simpa using hq⟩
    | succ k =>
      obtain ⟨d', v', e1, e2, e3, e4⟩ := h3 k o' (by simpa using hk)
      exact ⟨d', v', by simpa using e1, e2, e3, by simpa using e4⟩
theorem look_out {l : List (Nat × Value)} {t : Nat} (h : ∀ p ∈ l, p.1 ≠ t) : look l t = none := by
  cases hl : look l t with
  | none => rfl
  | some u => exact absurd rfl (h _ (look_mem hl))
theorem wanted_at {ops : Array Oper} {σ : List (Nat × Value)} {o : Oper} {e : Bool} {a : Act} (ha : ∀ t ∈ o.looksAt ops, ∀ u, look σ t = some u → a.tmps[t]? = some u) (hw : wantd ops σ o = some e) : Region.wanted o (yielded ops a.tmps) = e := by
  unfold wantd at hw
  unfold Region.wanted
  cases hg : o.guard with
  | none => simp [hg] at hw; simp [hw]
  | some g =>
    obtain ⟨j, b⟩ := g
    simp only [hg] at hw ⊢
    cases ht : (ops[j]?).bind (·.dst) with
    | none => simp [ht] at hw
    | some t =>
      simp only [ht] at hw
      cases hl : look σ t with
      | none => simp [hl] at hw
      | some v =>
        simp only [hl] at hw
        cases v <;> simp at hw
        case bool c =>
          have hc := ha t (by unfold Oper.looksAt; rw [hg]; exact List.mem_append_right _ (by simp [ht])) _ hl
          simp only [yielded, ht, Option.bind_some, hc]
          rw [← hw]
          cases c <;> cases b <;> rfl
        case tuple vs =>
          have hc := ha t (by unfold Oper.looksAt; rw [hg]; exact List.mem_append_right _ (by simp [ht])) _ hl
          simp only [yielded, ht, Option.bind_some, hc]
          rw [hw]; rfl
theorem opsAt_get {ops : Array Oper} : ∀ (l : List Nat), (∀ i ∈ l, i < ops.size) → ∀ (k i : Nat), l[k]? = some i → (opsAt ops l)[k]? = ops[i]?
  | [], _, k, i, h => by simp at h
  | x :: r, hl, k, i, h => by
    have hx : x < ops.size := hl x (List.mem_cons_self ..)
    have e : opsAt ops (x :: r) = ops[x] :: opsAt ops r := by simp [opsAt, hx]
    rw [e]
    cases k with
    | zero => simp at h; subst h; simp [hx]
    | succ k => simpa using opsAt_get r (fun i hi => hl i (List.mem_cons_of_mem _ hi)) k i (by simpa using h)
theorem opsAt_len {ops : Array Oper} : ∀ (l : List Nat), (∀ i ∈ l, i < ops.size) → (opsAt ops l).length = l.length
  | [], _ => rfl
  | x :: r, hl => by
    have hx : x < ops.size := hl x (List.mem_cons_self ..)
    have e : opsAt ops (x :: r) = ops[x] :: opsAt ops r := by simp [opsAt, hx]
    rw [e, List.length_cons, List.length_cons, opsAt_len r fun i hi => hl i (List.mem_cons_of_mem _ hi)]

theorem pvNodup (ops : Array Oper) (mask : List Bool) : (pvIdx ops mask).Nodup := List.Pairwise.filter _ List.nodup_range
theorem hvNodup (ops : Array Oper) (mask : List Bool) : (hvIdx ops mask).Nodup := List.Pairwise.filter _ List.nodup_range
theorem c_drp {F : Fence} {n : Nat} {P : Program} {N : Nat} {ds : List Deferred} {w0 : World} {W : Nat → Prop} {σ : List (Nat × Value)} {H : List HE} {Q : Exit → Act → World → Prop} {id : Nat} {l : List Oper} {mask : List Bool} [hF : Wide F]
    (hmask : maskOf l.toArray l [] = mask) (hmx : P.follows .mixedOrders = true) (hok : maskOk l.toArray mask = true)
    (h : HdP P N l.toArray (opsAt l.toArray (pvIdx l.toArray mask)) σ (fun τ => J N ds w0 W τ H (wpListIn F n P l.toArray (nq Q) (opsAt l.toArray (hvIdx l.toArray mask))))) : J N ds w0 W σ H ((Code.region id l.toArray true).wpIn F n P Q) := by
  clear hmask
  intro a w ha hst
  refine wpIn_region_any hmx ?_
  generalize l.toArray = ops at h hok
  unfold maskOk at hok
  simp only [Bool.and_eq_true, beq_iff_eq] at hok
  obtain ⟨⟨⟨hlen, hback0⟩, hall⟩, hchain⟩ := hok
  have hback : ∀ i, backB ops i = true := by
    intro i
    rcases Nat.lt_or_ge i ops.size with hi | hi
    · exact List.all_eq_true.1 hback0 i (List.mem_range.2 hi)
    · unfold backB; rw [Array.getElem?_eq_none hi]
  have hmlt : ∀ i, mAt mask i = true → i < ops.size := by
    intro i hi
    rw [← hlen]
    unfold mAt at hi
    rcases Nat.lt_or_ge i mask.length with h1 | h1
    · exact h1
    · rw [List.getD_eq_getElem?_getD, List.getElem?_eq_none h1] at hi; cases hi
  have hdlt : ∀ j d, dstAt ops j = some d → j < ops.size := by
    intro j d hd
    unfold dstAt at hd
    cases ho : ops[j]? with
    | none => simp [ho] at hd
    | some o => exact (Array.getElem?_eq_some_iff.1 ho).1
  have hper : ∀ (i : Nat) (o : Oper), ops[i]? = some o → plainB o = true ∧ (mAt mask i = true → o.dst.isSome = true) ∧ ∀ (j d : Nat), dstAt ops j = some d →
      ((mAt mask i = true ∨ mAt mask j = true) → i ≠ j → o.dst ≠ some d) ∧ (d ∈ o.looksAt ops → (mAt mask j = true → j < i ∧ edgeB ops i j = true) ∧ (mAt mask i = true → mAt mask j = true)) := by
    intro i o ho
    have his : i < ops.size := (Array.getElem?_eq_some_iff.1 ho).1
    have h1 := List.all_eq_true.1 hall i (List.mem_range.2 his)
    rw [ho] at h1
    simp only [Bool.and_eq_true] at h1
    obtain ⟨⟨h2, h3⟩, h4⟩ := h1
    refine ⟨h2, fun hm => by rw [hm] at h4; simpa using h4, fun j d hd => ?_⟩
    have h5 := List.all_eq_true.1 h3 j (List.mem_range.2 (hdlt j d hd))
    rw [hd] at h5
    simp only [Bool.and_eq_true] at h5
    obtain ⟨h6, h7⟩ := h5
    refine ⟨fun hm hne => ?_, fun hlk => ?_⟩
    · have e1 : (mAt mask i || mAt mask j) = true := by rcases hm with e | e <;> simp [e]
      have e2 : Nat.beq i j = false := by
        cases hb : Nat.beq i j with
        | false => rfl
        | true => exact absurd (Nat.eq_of_beq_eq_true hb) hne
      rw [e1, e2] at h6
      simpa using h6
    · have e3 : (o.looksAt ops).contains d = true := by simpa using hlk
      rw [e3] at h7
      simp only [Bool.not_true, Bool.false_or] at h7
      refine ⟨fun hm => ?_, fun hm => ?_⟩
      · rw [hm] at h7
        simpa using h7
      · rw [hm] at h7
        cases hj : mAt mask j with
        | true => rfl
        | false => rw [hj] at h7; cases h7
  obtain ⟨vs, hvl, hT, hvs⟩ := HdP.vals _ _ h
  have hps : ∀ i ∈ pvIdx ops mask, i < ops.size := fun i hi => List.mem_range.1 (List.mem_filter.1 hi).1
  rw [opsAt_len _ hps] at hvl
  have hinc : (pvIdx ops mask).Pairwise (· < ·) := List.Pairwise.filter _ (List.pairwise_lt_range)
  have hget : ∀ k i : Nat, (pvIdx ops mask)[k]? = some i → ∃ o d v, ops[i]? = some o ∧ mAt mask i = true ∧ vs[k]? = some (d, v) ∧ o.dst = some d ∧ d < N ∧
      ((wantd ops ((vs.take k).reverse ++ σ) o = some true ∧ PQ P ((vs.take k).reverse ++ σ) o v) ∨ (wantd ops ((vs.take k).reverse ++ σ) o = some false ∧ v = undef)) := by
    intro k i hk
    have him : i ∈ pvIdx ops mask := List.mem_of_getElem? hk
    have his := hps i him
    have hoi : ops[i]? = some ops[i] := Array.getElem?_eq_getElem his
    obtain ⟨d, v, e1, e2, e3, e4⟩ := hvs k ops[i] (by rw [opsAt_get _ hps k i hk, hoi])
    exact ⟨ops[i], d, v, hoi, (List.mem_filter.1 him).2, e1, e2, e3, e4⟩
  have hkey : ∀ k : Nat, k < vs.length → ∃ i : Nat, (pvIdx ops mask)[k]? = some i := fun k hk => ⟨_, List.getElem?_eq_getElem (by omega)⟩
  have hdis : ∀ (k k' d : Nat) (v v' : Value), vs[k]? = some (d, v) → vs[k']? = some (d, v') → k = k' := by
    intro k k' d v v' h1 h2
    obtain ⟨i, hi⟩ := hkey k (List.getElem?_eq_some_iff.1 h1).1
    obtain ⟨i', hi'⟩ := hkey k' (List.getElem?_eq_some_iff.1 h2).1
    obtain ⟨o, d1, v1, q1, q2, q3, q4, -⟩ := hget k i hi
    obtain ⟨o', d2, v2, r1, r2, r3, r4, -⟩ := hget k' i' hi'
    rw [h1] at q3; injection q3 with q3; injection q3 with q3 _; subst q3
    rw [h2] at r3; injection r3 with r3; injection r3 with r3 _; subst r3
    apply Classical.byContradiction
    intro hne
    have hii : i ≠ i' := by
      intro e; subst e
      have hnd : (pvIdx ops mask).Nodup := pvNodup ops mask
      exact hne ((List.getElem?_inj (List.getElem?_eq_some_iff.1 hi).1 hnd).1 (by rw [hi, hi']))
    exact ((hper i o q1).2.2 i' d (by simp [dstAt, r1, r4])).1 (.inl q2) hii q4
  have hN : ∀ p ∈ vs.reverse, p.1 < N := by
    intro p hp
    obtain ⟨k, hk, hke⟩ := List.getElem_of_mem (List.mem_reverse.1 hp)
    obtain ⟨i, hi⟩ := hkey k hk
    obtain ⟨o, d, v, -, -, q3, -, q5, -⟩ := hget k i hi
    rw [List.getElem?_eq_getElem hk, hke] at q3; injection q3 with q3; subst q3; exact q5
  have hpos : ∀ i : Nat, mAt mask i = true → ∃ k : Nat, (pvIdx ops mask)[k]? = some i := by
    intro i hi
    have : i ∈ pvIdx ops mask := List.mem_filter.2 ⟨List.mem_range.2 (hmlt i hi), hi⟩
    obtain ⟨k, hk, hke⟩ := List.getElem_of_mem this
    exact ⟨k, by rw [List.getElem?_eq_getElem hk, hke]⟩
  have hlookv : ∀ (k d : Nat) (v : Value), vs[k]? = some (d, v) → look vs.reverse d = some v := by
    intro k d v hk
    cases hl : look vs.reverse d with
    | none => exact absurd (List.mem_reverse.2 (List.mem_of_getElem? hk)) (look_none hl v)
    | some u =>
      obtain ⟨k', hk', hke⟩ := List.getElem_of_mem (List.mem_reverse.1 (look_mem hl))
      have h2 : vs[k']? = some (d, u) := by rw [List.getElem?_eq_getElem hk', hke]
      have := hdis k k' d v u hk h2
      subst this
      rw [hk] at h2; injection h2 with h2; injection h2 with _ h2; rw [h2]
  let V : Nat → Option (Nat × Value) := fun i => if mAt mask i = true then (vs[(pvIdx ops mask).idxOf i]?) else none
  have hVk : ∀ (k i : Nat), (pvIdx ops mask)[k]? = some i → mAt mask i = true → V i = vs[k]? := by
    intro k i hk hm
    have hnd : (pvIdx ops mask).Nodup := pvNodup ops mask
    have : (pvIdx ops mask).idxOf i = k := by
      have hkl := (List.getElem?_eq_some_iff.1 hk).1
      have hmem := List.mem_of_getElem? hk
      exact (List.getElem?_inj (List.idxOf_lt_length_of_mem hmem) hnd).1 (by rw [List.getElem?_eq_getElem (List.idxOf_lt_length_of_mem hmem), List.getElem_idxOf, hk])
    simp only [V, if_pos hm, this]
  have hpa := fun t => putAll_at (N := N) vs.reverse (a := a) (t := t) hN ha.size
  refine anyP (N := N) (mask := mask) (V := V) (L := look (vs.reverse ++ σ)) hback (fun i o ho => (hper i o ho).1) (fun i j d hm hne hi hj => ?_) (fun i o j d ho hd hl => ((hper i o ho).2.2 j d hd).2 hl) ?_ ?_ ops.size (Array.replicate ops.size false) a (putAll vs.reverse a) _ (hvIdx ops mask) ?_ (by simp) (fun j hj => .inr (by simp [hj])) ?_ ?_ (hvNodup ops mask) hchain ?_ (hT _ _ (putAll_tm vs.reverse hN ha) hst.drew)
  · have his := hdlt i d hi
    have hoi : ops[i]? = some ops[i] := Array.getElem?_eq_getElem his
    have := ((hper i ops[i] hoi).2.2 j d hj).1 hm hne
    simp only [dstAt, hoi, Option.bind_some] at hi
    exact absurd hi this
  · intro i o hm ho
    obtain ⟨k, hk⟩ := hpos i hm
    obtain ⟨o', d, v, q1, -, q3, q4, q5, q6⟩ := hget k i hk
    rw [ho] at q1; injection q1 with q1; subst q1
    refine ⟨d, v, by rw [hVk k i hk hm, q3], q4, q5, fun a' ha' => ?_⟩
    have hsub : ∀ t ∈ o.looksAt ops, ∀ u, look ((vs.take k).reverse ++ σ) t = some u → a'.tmps[t]? = some u := by
      intro t ht u hu
      refine ha' t ht u ?_
      have e : vs.reverse = (vs.drop k).reverse ++ (vs.take k).reverse := by rw [← List.reverse_append, List.take_append_drop]
      rw [e, List.append_assoc, look_append, look_out, Option.none_or]
      · exact hu
      · intro p hp e'
        obtain ⟨j, hj, hje⟩ := List.getElem_of_mem (List.mem_reverse.1 hp)
        have hvj : vs[k + j]? = some (t, p.2) := by
          rw [← List.getElem?_drop, List.getElem?_eq_getElem hj, hje, ← e']
        obtain ⟨i', hi'⟩ := hkey (k + j) (List.getElem?_eq_some_iff.1 hvj).1
        obtain ⟨o2, d2, v2, r1, r2, r3, r4, -⟩ := hget (k + j) i' hi'
        rw [hvj] at r3; injection r3 with r3; injection r3 with r3 _; subst r3
        have hlt := (((hper i o ho).2.2 i' t (by simp [dstAt, r1, r4])).2 ht).1 r2
        rcases Nat.eq_zero_or_pos j with h0 | h0
        · subst h0
          rw [Nat.add_zero, hk] at hi'; injection hi' with hi'; omega
        · have := List.pairwise_iff_getElem.1 hinc k (k + j) (List.getElem?_eq_some_iff.1 hk).1 (List.getElem?_eq_some_iff.1 hi').1 (by omega)
          rw [(List.getElem?_eq_some_iff.1 hk).2, (List.getElem?_eq_some_iff.1 hi').2] at this
          omega
    rcases q6 with ⟨q6, q7⟩ | ⟨q6, q7⟩
    · refine .inl ⟨wanted_at hsub q6, fun w' => q7 _ (fun x hx u hu => ?_) w'⟩
      cases x with
      | tmp t =>
        have := hsub t (List.mem_append_left _ (List.mem_filterMap.2 ⟨.tmp t, hx, rfl⟩)) u hu
        simp [Act.eval, this]
      | const u => simpa [ev, Act.eval] using hu
      | global g => simpa [ev, Act.eval] using hu
      | func f => simpa [ev, Act.eval] using hu
    · exact .inr ⟨wanted_at hsub q6, q7⟩
  · intro i d v hV
    simp only [V] at hV
    split at hV
    · rename_i hm
      obtain ⟨k, hk⟩ := hpos i hm
      have := hVk k i hk hm
      simp only [V, if_pos hm] at this
      rw [this] at hV
      obtain ⟨o', d', v', q1, -, q3, q4, -, -⟩ := hget k i hk
      rw [hV] at q3; injection q3 with q3; injection q3 with q3 _; subst q3
      exact ⟨hm, by simp [dstAt, q1, q4]⟩
    · cases hV
  · unfold undone
    exact Nat.le_trans (List.length_filter_le _ _) (by simp)
  · intro j hj
    obtain ⟨q1, q2⟩ := List.mem_filter.1 hj
    have := List.mem_range.1 q1
    exact ⟨this, by simpa using q2, by simp [this]⟩
  · intro j hj hm _
    exact List.mem_filter.2 ⟨List.mem_range.2 hj, by simp [hm]⟩
  · refine ⟨ha.size, (hpa 0).2.1, (hpa 0).2.2.symm, fun t ht => ?_, fun j d v hV => ?_, fun t u hu _ => ?_⟩
    · rw [(hpa t).1, look_out, Option.none_or]
      intro p hp e
      obtain ⟨k, hk, hke⟩ := List.getElem_of_mem (List.mem_reverse.1 hp)
      obtain ⟨i, hi⟩ := hkey k hk
      obtain ⟨o, d, v, q1, q2, q3, q4, q5, -⟩ := hget k i hi
      rw [List.getElem?_eq_getElem hk, hke] at q3; injection q3 with q3; subst q3
      exact ht i d q2 (by simp [dstAt, q1, q4]) (by simp [hmlt i q2]) e
    · simp only [V] at hV
      split at hV
      · rename_i hm
        rw [(hpa d).1, hlookv _ d v hV]; rfl
      · cases hV
    · rw [(hpa t).1]
      rw [look_append] at hu
      cases hl : look vs.reverse t with
      | some u' => rw [hl] at hu; simpa using hu
      | none => rw [hl] at hu; exact ha.at_ t u (by simpa using hu)
end Go.Proofs.YtemmnpgebpffbaaGreat
/- The engine: a range over a function. -/
namespace Go.Proofs.YtemmnpgebpffbaaGreat
open Go.RowKit

/-- The mark that a range over a function leaves among the deferred calls. -/
def mk (D : Nat) : Deferred := { target := .collected D, args := #[] }
def marks (Ds : List Nat) : List Deferred := Ds.map mk
def marksH (Ds : List Nat) : List HE := Ds.map fun D => .obj D (.deferred (some []))

def over : List Tmp → List Value → List (Nat × Value) → List (Nat × Value)
  | p :: ps, v :: vs, σ => over ps vs ((p, v) :: σ)
  | _, _, σ => σ

/-- A call of yield: a round of loop l. -/
def Yields (P : Program) (l : Nat) (vs : List Value) (S : List HE) (w : World) (Rl : Value → List HE → Prop) : Prop :=
  ∃ r, w.heap[l]? = some (.loop r) ∧ vs.length = r.params.size ∧ ∀ n, RoundIn Fence.wide n P l r.fn ((r.params.zip vs.toArray).foldl (fun tmps (t, a) => tmps.setIfInBounds t a) r.tmps) r.assign r.body w (Post S w Rl)

theorem over_tm {N : Nat} : ∀ (ps : List Tmp) (vs : List Value) (σ : List (Nat × Value)) (tmps : Array Value), (∀ p ∈ ps, p < N) → tmps.size = N → (∀ t v, look σ t = some v → tmps[t]? = some v) →
    ((ps.zip vs).foldl (fun tmps (p : Tmp × Value) => tmps.setIfInBounds p.1 p.2) tmps).size = N ∧ ∀ t v, look (over ps vs σ) t = some v → ((ps.zip vs).foldl (fun tmps (p : Tmp × Value) => tmps.setIfInBounds p.1 p.2) tmps)[t]? = some v
  | [], _, σ, tmps, _, hs, h => by simpa [over] using ⟨hs, h⟩
  | p :: ps, [], σ, tmps, _, hs, h => by simpa [over] using ⟨hs, h⟩
  | p :: ps, v :: vs, σ, tmps, hp, hs, h => by
    simp only [over, List.zip_cons_cons, List.foldl_cons]
    refine over_tm ps vs ((p, v) :: σ) _ (fun q hq => hp q (List.mem_cons_of_mem _ hq)) (by simpa using hs) (fun t u hu => ?_)
    rw [look_cons] at hu
    rw [Array.getElem?_setIfInBounds]
    by_cases e : p = t
    · subst e
      rw [if_pos rfl] at hu ⊢
      rw [if_pos (by rw [hs]; exact hp p (List.mem_cons_self ..))]
      exact hu
    · rw [if_neg e] at hu ⊢
      exact h t u hu

section
variable {F : Fence} {n : Nat} {P : Program} {N : Nat} {ds : List Deferred} {w0 : World} {W : Nat → Prop} {σ : List (Nat × Value)} {H R : List HE} {Q : Exit → Act → World → Prop} {K : Act → World → Prop}
variable {d : Nat} {ty : TypeId} {pos : String} {aft : Array Edge} {gd : Option (Nat × Bool)} {o : Oper}

theorem o_yield [hF : Wide F] (hwide : F = Fence.wide) {x : Operand} {l : Nat} {args : Array Operand} {ts : Array TypeId} {vs : List Value} {S : List HE} {Rl : Value → List HE → Prop}
    (hx : ev σ x = some (.func (.yield l) #[] #[])) (hv : vals σ args.toList = some vs) (hs : Split H S R) (hdN : Nat.blt d N = true)
    (hy : ∀ w, St w0 W H w → Own S w → Yields P l vs S w Rl)
    (h : ∀ v S', Rl v S' → J N ds w0 W ((d, v) :: σ) (S' ++ R) K) :
    OJ F n P N ds w0 W σ H ⟨some d, .call ⟨.value x, args, ts⟩, ty, pos, aft, gd⟩ K Q := by
  subst hwide
  intro a w ha hw
  have hargs : args.map a.eval = vs.toArray := by
    rw [← vals_map ha hv]
    apply Array.ext'
    simp
  obtain ⟨r, hr, hlen, hround⟩ := hy w hw (hw.sub_own hs)
  refine ⟨fun f _ => trivial, ?_⟩
  rw [Oper.semAt_plain Fence.wide _ _ (by simp)]
  have hyl := run_yield (P := P) (args := vs.toArray) hr (by simpa using hlen)
  simp only [execOp, resolve, invoke, Deferred.ofValue, Sem.run_bind, Sem.run_pure, Result.andThen_ok, ha.eval hx, hargs, Array.empty_append, hyl, Oper.uponIn_round]
  refine ⟨fun hd => (by cases hd), (hround (n - 1)).mono ?_⟩
  rintro e w' ⟨v, S', rfl, hr', hst⟩
  exact h v S' hr' _ _ (ha.put d v (by simpa using hdN)) (hw.call hs hst)

theorem lyl {ops : Array Oper} {rest : List Oper} {x : Operand} {l : Nat} {args : Array Operand} {ts : Array TypeId} {vs : List Value} {S : List HE} {Rl : Value → List HE → Prop}
    (hw : wantd ops σ ⟨some d, .call ⟨.value x, args, ts⟩, ty, pos, aft, gd⟩ = some true) (hx : ev σ x = some (.func (.yield l) #[] #[])) (hv : vals σ args.toList = some vs) (hs : Split H S R) (hdN : Nat.blt d N = true)
    (hy : ∀ w, St w0 W H w → Own S w → Yields P l vs S w Rl)
    (h : ∀ v S', Rl v S' → J N ds w0 W ((d, v) :: σ) (S' ++ R) (wpListIn Fence.wide n P ops Q rest)) :
    J N ds w0 W σ H (wpListIn Fence.wide n P ops Q (⟨some d, .call ⟨.value x, args, ts⟩, ty, pos, aft, gd⟩ :: rest)) := l_run hw (o_yield rfl hx hv hs hdN hy h)

theorem yields_of {l : Nat} {vs : List Value} {w : World} {ps : Array Tmp} {assign body : Code} {S0 : List HE} {Rl : Value → List HE → Prop} {σr : List (Nat × Value)}
    (hown : Own (.loop l N σr ps assign body .ready none :: S0) w) (hlen : vs.length = ps.size) (hps : ∀ p ∈ ps.toList, p < N)
    (h : ∀ n, J N [] w (blocks (.loop l N σr ps assign body .ready none :: S0)) (over ps.toList vs σr) (.loop l N σr ps assign body .ready none :: S0)
      (assign.wpIn (Fence.wide.inRound l) n P (Exit.then (fun a₁ w₁ => ∃ w₂, (Instr.beginRound l).run P w₁ = .ok () w₂ ∧ body.wpIn (Fence.wide.inRound l) n P (roundPost P l (Post (.loop l N σr ps assign body .ready none :: S0) w Rl)) a₁ w₂) (fun _ _ _ => False)))) :
    Yields P l vs (.loop l N σr ps assign body .ready none :: S0) w Rl := by
  obtain ⟨r, hr, e1, e2, e3, e4, e5, e6, e7⟩ := hown.holds _ (List.mem_cons_self ..)
  refine ⟨r, hr, by rw [e3]; exact hlen, fun n => ?_⟩
  refine roundIn_of_wpIn trivial ?_
  rw [e3, e4, e5]
  obtain ⟨k1, k2⟩ := over_tm ps.toList vs σr r.tmps hps e6 e7
  have hz : ((ps.zip vs.toArray).foldl (fun tmps (t, a) => tmps.setIfInBounds t a) r.tmps) = ((ps.toList.zip vs).foldl (fun tmps (p : Tmp × Value) => tmps.setIfInBounds p.1 p.2) r.tmps) := by
    rw [← Array.foldl_toList, Array.toList_zip]
  rw [hz]
  exact h n _ _ ⟨k1, rfl, k2⟩ (St.start hown)

theorem putObj_holds {w : World} {l : Nat} {o : Obj} (h : l < w.heap.size) : (w.putObj l o).heap[l]? = some o := World.putObj_heap_same h

theorem c_begin {l : Nat} {σr : List (Nat × Value)} {ps : Array Tmp} {assign body : Code} {Nr : Nat} {pend : Option Code} {c : Code}
    (h : J N ds w0 W σ (.loop l Nr σr ps assign body .busy pend :: H) (c.wpIn F n P Q)) :
    J N ds w0 W σ (.loop l Nr σr ps assign body .ready pend :: H) (fun a₁ w₁ => ∃ w₂, (Instr.beginRound l).run P w₁ = .ok () w₂ ∧ c.wpIn F n P Q a₁ w₂) := by
  intro a w ha hw
  obtain ⟨r, hr, e1, e2, e3⟩ := hw.own.holds _ (List.mem_cons_self ..)
  have hlt : l < w.heap.size := (Array.getElem?_eq_some_iff.1 hr).1
  refine ⟨_, run_beginRound hr e1, h _ _ ha (hw.turn (.here _ _) ⟨_, putObj_holds hlt, rfl, e2, e3⟩ rfl rfl rfl (by simp) (fun b _ hb => World.putObj_heap_other (fun e => hb (by rw [e]; rfl))) (.inl rfl))⟩

theorem round_end {l : Nat} {σr : List (Nat × Value)} {ps : Array Tmp} {assign body : Code} {Nr : Nat} {st : LoopState} {pend : Option Code} {S' S : List HE} {Rl : Value → List HE → Prop} {w : World} (jump : Option Code)
    (hw : St w0 W (.loop l Nr σr ps assign body st pend :: H) w) (hs : Sub S' (.loop l Nr σr ps assign body (if jump.isNone then .ready else .done) jump :: H)) (hR : Rl (.bool jump.isNone) S') (hWS : W = blocks S) :
    ∃ v w', (Instr.endRound l jump).run P w = .ok v w' ∧ Post S w0 Rl (.returned v) w' := by
  subst hWS
  obtain ⟨r, hr, e1, e2, e3⟩ := hw.own.holds _ (List.mem_cons_self ..)
  have hlt : l < w.heap.size := (Array.getElem?_eq_some_iff.1 hr).1
  refine ⟨_, _, run_endRound jump hr, _, S', rfl, hR, St.sub ?_ hs⟩
  exact hw.turn (y := .loop l Nr σr ps assign body (if jump.isNone then .ready else .done) jump) (.here _ _) ⟨_, putObj_holds hlt, rfl, rfl, e3⟩ rfl rfl rfl (by simp) (fun b _ hb => World.putObj_heap_other (fun e => hb (by rw [e]; rfl))) (.inl rfl)
theorem c_rnormal {l : Nat} {σr : List (Nat × Value)} {ps : Array Tmp} {assign body : Code} {Nr : Nat} {st : LoopState} {pend : Option Code} {S' S : List HE} {Rl : Value → List HE → Prop}
    (hs : Sub S' (.loop l Nr σr ps assign body .ready none :: H)) (hR : Rl (.bool true) S') : J N ds w0 (blocks S) σ (.loop l Nr σr ps assign body st pend :: H) (roundPost P l (Post S w0 Rl) .normal) :=
  fun _ _ _ hw => round_end none hw hs hR rfl
theorem c_rret {l : Nat} {σr : List (Nat × Value)} {ps : Array Tmp} {assign body : Code} {Nr : Nat} {st : LoopState} {pend : Option Code} {S' S : List HE} {Rl : Value → List HE → Prop}
    (hs : Sub S' (.loop l Nr σr ps assign body .done (some .ret) :: H)) (hR : Rl (.bool false) S') : J N ds w0 (blocks S) σ (.loop l Nr σr ps assign body st pend :: H) (roundPost P l (Post S w0 Rl) .ret) :=
  fun _ _ _ hw => round_end (some .ret) hw hs hR rfl
theorem c_rexit {l id : Nat} {σr : List (Nat × Value)} {ps : Array Tmp} {assign body : Code} {Nr : Nat} {st : LoopState} {pend : Option Code} {S' S : List HE} {Rl : Value → List HE → Prop}
    (hs : Sub S' (.loop l Nr σr ps assign body .done (some (.exit id)) :: H)) (hR : Rl (.bool false) S') : J N ds w0 (blocks S) σ (.loop l Nr σr ps assign body st pend :: H) (roundPost P l (Post S w0 Rl) (.exit id)) :=
  fun _ _ _ hw => round_end (some (.exit id)) hw hs hR rfl

/-- A block of whatever kind, new. -/
theorem St.newObj {w : World} (h : St w0 W H w) (o : Obj) (x : HE) (hb : x.block = some w.heap.size) (hx : x.holds (w.alloc o)) : St w0 W (x :: H) (w.alloc o) := by
  refine ⟨h.os, h.tape, h.output, Nat.le_trans h.size (by simp), fun b hb hW => (Below.heap_alloc w _ b (Nat.lt_of_lt_of_le hb h.size)).trans (h.old b hb hW), ⟨fun y hy => ?_, ?_⟩, fun y hy b hyb => ?_⟩
  · rcases List.mem_cons.1 hy with rfl | hy
    · exact hx
    · exact HE.keep (h.own.holds y hy) fun b hb => Below.heap_alloc w _ b (HE.lt (h.own.holds y hy) hb)
  · refine List.pairwise_cons.2 ⟨fun y hy => .inr fun he => ?_, h.own.apart⟩
    rw [hb] at he
    have := HE.lt (h.own.holds y hy) he.symm
    omega
  · rcases List.mem_cons.1 hy with rfl | hy
    · rw [hb] at hyb; injection hyb with hyb; subst hyb; exact .inr h.size
    · exact h.mine y hy b hyb

theorem Does.conv {f : FuncId} {args : List Value} {S S2 : List HE} {w : World} {Rl Rl' : Value → List HE → Prop} (h : Does P f args S w Rl) (hp : S.Perm S2) (hr : ∀ v S', Rl v S' → ∃ S'', S'.Perm S'' ∧ Rl' v S'') : Does P f args S2 w Rl' := fun n => by
  refine (h n).mono ?_
  rintro e w' ⟨v, S', rfl, hr', hst⟩
  obtain ⟨S'', hp2, hr2⟩ := hr v S' hr'
  have hb : blocks S = blocks S2 := by
    funext b
    apply propext
    exact ⟨fun ⟨x, hx, hb⟩ => ⟨x, hp.mem_iff.1 hx, hb⟩, fun ⟨x, hx, hb⟩ => ⟨x, hp.mem_iff.2 hx, hb⟩⟩
  exact ⟨v, S'', rfl, hr2, by rw [← hb]; exact hst.perm hp2⟩
/-- THE STATEMENT: a range over a function, not in a round of another. -/
theorem c_range {g : Operand} {ps : Array Tmp} {assign body : Code} {f : FuncId} {captured : Array Value} [hcl : Cl P f] {S0 : List HE} {Rp : Nat → Nat → Option Code → List HE → Prop}
    (hx : ev σ g = some (.func (.func f) #[] captured)) (hs : Split H S0 R)
    (hc : ∀ (D l : Nat) (w : World) (LE : HE), LE = .loop l N σ ps assign body .ready none → St w0 W (LE :: .obj D (.deferred (some [])) :: H) w → Own (LE :: S0) w →
      Does P f (.func (.yield l) #[] #[] :: captured.toList) (LE :: S0) w fun _ S' => ∃ st pend S1, S' = .loop l N σ ps assign body st pend :: S1 ∧ st ≠ .busy ∧ Rp D l pend S1)
    (h : ∀ D l pend S1, Rp D l pend S1 → (pend = none → J N (mk D :: ds) w0 W σ (S1 ++ .obj D (.deferred (some [])) :: R) (Q .normal)) ∧ (∀ c, pend = some c → J N (mk D :: ds) w0 W σ (S1 ++ .obj D (.deferred (some [])) :: R) (c.wpIn Fence.wide n P Q))) :
    J N ds w0 W σ H ((Code.rangeFunc g ps assign body).wpIn Fence.wide n P Q) := by
  intro a w ha hw
  refine wpIn_rangeFunc fun fn _ => ?_
  have h1 : St w0 W (.obj w.heap.size (.deferred (some [])) :: H) (w.alloc (.deferred (some []))) := hw.newObj _ _ rfl (World.alloc_heap_new _ _)
  have h2 : St w0 W (.loop (w.heap.size + 1) N σ ps assign body .ready none :: .obj w.heap.size (.deferred (some [])) :: H) ((w.alloc (.deferred (some []))).alloc (.loop { state := .ready, pending := none, fn, tmps := a.tmps, params := ps, assign, body, defers := w.heap.size })) := by
    refine h1.newObj _ _ (by simp [HE.block]) ⟨_, by have := World.alloc_heap_new (w.alloc (.deferred (some []))) (.loop { state := .ready, pending := none, fn, tmps := a.tmps, params := ps, assign, body, defers := w.heap.size }); rwa [World.size_alloc] at this, rfl, rfl, rfl, rfl, rfl, ha.size, ha.at_⟩
  have hen := run_enterLoop_outer (P := P) (w := w) fn a.tmps ps assign body
  generalize ((w.alloc (.deferred (some []))).alloc (.loop { state := .ready, pending := none, fn, tmps := a.tmps, params := ps, assign, body, defers := w.heap.size })) = W2 at h2 hen
  refine ⟨w.heap.size + 1, [mk w.heap.size], W2, { target := .fn (.func f) captured, args := #[.func (.yield (w.heap.size + 1)) #[] #[]] }, W2, f, #[.func (.yield (w.heap.size + 1)) #[] #[]] ++ captured, W2, hen, ?_, ?_, ?_, ?_⟩
  · have hg := ha.eval hx
    have hy : a.eval (.const (.func (.yield (w.heap.size + 1)) #[] #[])) = .func (.yield (w.heap.size + 1)) #[] #[] := rfl
    simp only [resolve, rangeCall, Deferred.ofValue, hg, List.map_toArray, List.map_cons, List.map_nil, hy, Sem.run_pure, Array.empty_append]
  · exact fun _ _ => trivial
  · simp only [invoke]; exact hcl.h _ _
  · refine ⟨fun hd => (by cases hd), ?_⟩
    have hspl : Split (.loop (w.heap.size + 1) N σ ps assign body .ready none :: .obj w.heap.size (.deferred (some [])) :: H) (.loop (w.heap.size + 1) N σ ps assign body .ready none :: S0) (.obj w.heap.size (.deferred (some [])) :: R) := by
      refine .cons (.here _ _) ?_
      have key : ∀ {H S R : List HE} (y : HE), Split H S R → Split (y :: H) S (y :: R) := by
        intro H S R y hsp
        induction hsp with
        | nil H => exact .nil _
        | cons h _ ih => exact .cons (.there y h) ih
      exact key _ hs
    have hd := hc _ _ _ _ rfl h2 (h2.sub_own hspl) (n - 1)
    have e0 : (.func (.yield (w.heap.size + 1)) #[] #[] :: captured.toList : List Value).toArray = #[.func (.yield (w.heap.size + 1)) #[] #[]] ++ captured := by
      apply Array.ext'; simp
    rw [e0] at hd
    refine hd.mono ?_
    rintro e w3 ⟨v, S', rfl, ⟨st, pend, S1, rfl, hnb, hRp⟩, hst⟩
    have h3 : St w0 W (.loop (w.heap.size + 1) N σ ps assign body st pend :: (S1 ++ .obj w.heap.size (.deferred (some [])) :: R)) w3 := h2.call hspl hst
    obtain ⟨r, hr, k1, k2, k3⟩ := h3.own.holds _ (List.mem_cons_self ..)
    have hlt : w.heap.size + 1 < w3.heap.size := (Array.getElem?_eq_some_iff.1 hr).1
    refine ⟨pend, w3.putObj (w.heap.size + 1) (.loop { r with state := .exhausted }), by rw [← k2]; exact run_endLoop hr (by rw [k1]; exact hnb), ?_⟩
    have h4 : St w0 W (.loop (w.heap.size + 1) N σ ps assign body .exhausted pend :: (S1 ++ .obj w.heap.size (.deferred (some [])) :: R)) (w3.putObj (w.heap.size + 1) (.loop { r with state := .exhausted })) :=
      h3.turn (.here _ _) ⟨_, putObj_holds hlt, rfl, k2, k3⟩ rfl rfl rfl (by simp) (fun b _ hb => World.putObj_heap_other (fun e => hb (by rw [e]; rfl))) (.inl rfl)
    have h5 := h4.sub ((Sub.refl _).skip _)
    have ha' : Tm N (mk w.heap.size :: ds) σ { a with defers := [mk w.heap.size] ++ a.defers } := ⟨ha.size, by simp [ha.defers], ha.at_⟩
    obtain ⟨q1, q2⟩ := h _ _ _ _ hRp
    cases pend with
    | none => exact q1 rfl _ _ ha' h5
    | some c => exact q2 c rfl _ _ ha' h5

/-- A function that holds a range over a function. -/
theorem does_ofM {f : FuncId} {fn : Func} {c : Code} {S : List HE} {args : List Value} {w : World} {Rl : Value → List HE → Prop} (hf : P.funcs[f]? = some fn) (hb : fn.body = some c) (hN : fn.ntmps = N) (hle : Nat.ble args.length N = true) (hown : Own S w)
    (h : ∀ n, J N [] w (blocks S) (slots 0 args) S (c.wpIn Fence.wide n P (bodyPostM Fence.wide n P fn (Post S w Rl)))) : Does P f args S w Rl := fun n => by
  refine callsIn_of_wp_marks hf hb trivial (h n _ _ ⟨?_, rfl, fun t v ht => ?_⟩ (St.start hown)) rfl
  · have := Nat.le_of_ble_eq_true hle
    simp [hN]; omega
  · obtain ⟨-, h2⟩ := look_slots _ _ _ _ ht
    rw [Nat.sub_zero] at h2
    rw [Array.getElem?_append_left (by simpa using (List.getElem?_eq_some_iff.1 h2).1)]
    simpa using h2

theorem leaves_marks {fn : Func} {Rr : Ending → World → Prop} {tmps : Array Value} {S' : List HE} (hend : ∀ w, St w0 W S' w → ∃ v, (results fn tmps).run P w = .ok v w ∧ Rr (.returned v) w) :
    ∀ (Ds : List Nat) (w : World), St w0 W (S' ++ marksH Ds) w → LeavesInM Fence.wide n P fn tmps Rr (marks Ds) .returning w
  | [], w, hw => by
    obtain ⟨v, h1, h2⟩ := hend w (by simpa [marksH] using hw)
    exact ⟨v, h1, h2⟩
  | D :: Ds, w, hw => by
    have hperm : (S' ++ marksH (D :: Ds)).Perm (.obj D (.deferred (some [])) :: (S' ++ marksH Ds)) := List.perm_middle
    have h1 := hw.perm hperm
    have hD : w.heap[D]? = some (.deferred (some [])) := h1.own.holds _ (List.mem_cons_self ..)
    have hlt : D < w.heap.size := (Array.getElem?_eq_some_iff.1 hD).1
    have h2 : St w0 W (.obj D (.deferred none) :: (S' ++ marksH Ds)) (w.putObj D (.deferred none)) :=
      h1.turn (.here _ _) (putObj_holds hlt) rfl rfl rfl (by simp) (fun b _ hb => World.putObj_heap_other (fun e => hb (by rw [e]; rfl))) (.inl rfl)
    exact ⟨by simp, .inl ⟨D, _, rfl, run_takeDeferred hD, leaves_marks hend Ds _ (h2.sub ((Sub.refl _).skip _))⟩⟩

theorem j_outM0 {fn : Func} {Ds : List Nat} {S' S : List HE} {Rl : Value → List HE → Prop} (hres : fn.results = #[]) (hs : Sub (S' ++ marksH Ds) H) (hR : Rl (.tuple #[]) S') (e : Exit) (he : e = .normal ∨ e = .ret) : J N (marks Ds) w0 (blocks S) σ H (bodyPostM Fence.wide n P fn (Post S w0 Rl) e) := fun a w ha hw => by
  have := leaves_marks (n := n) (P := P) (fn := fn) (Rr := Post S w0 Rl) (tmps := a.tmps) (fun w' hw' => ⟨_, results_none hres _ _ _, _, S', rfl, hR, hw'⟩) Ds w (hw.sub hs)
  rcases he with rfl | rfl
  · show LeavesInM _ _ _ _ _ _ a.defers _ _
    rw [ha.defers]; exact this
  · show LeavesInM _ _ _ _ _ _ a.defers _ _
    rw [ha.defers]; exact this
theorem j_outM1 {fn : Func} {t : Tmp} {v : Value} {Ds : List Nat} {S' S : List HE} {Rl : Value → List HE → Prop} (hres : fn.results = #[.tmp t]) (hv : look σ t = some v) (hs : Sub (S' ++ marksH Ds) H) (hR : Rl v S') : J N (marks Ds) w0 (blocks S) σ H (bodyPostM Fence.wide n P fn (Post S w0 Rl) .ret) := fun a w ha hw => by
  have := leaves_marks (n := n) (P := P) (fn := fn) (Rr := Post S w0 Rl) (tmps := a.tmps) (fun w' hw' => ⟨_, results_tmp hres _ _ _, _, S', by rw [getD_of ha hv], hR, hw'⟩) Ds w (hw.sub hs)
  show LeavesInM _ _ _ _ _ _ a.defers _ _
  rw [ha.defers]; exact this
theorem j_outM2 {fn : Func} {t u : Tmp} {v x : Value} {Ds : List Nat} {S' S : List HE} {Rl : Value → List HE → Prop} (hres : fn.results = #[.tmp t, .tmp u]) (hv : look σ t = some v) (hx : look σ u = some x) (hs : Sub (S' ++ marksH Ds) H) (hR : Rl (.tuple #[v, x]) S') : J N (marks Ds) w0 (blocks S) σ H (bodyPostM Fence.wide n P fn (Post S w0 Rl) .ret) := fun a w ha hw => by
  have := leaves_marks (n := n) (P := P) (fn := fn) (Rr := Post S w0 Rl) (tmps := a.tmps) (fun w' hw' => ⟨_, results_tmp2 hres _ _ _, _, S', by rw [getD_of ha hv, getD_of ha hx], hR, hw'⟩) Ds w (hw.sub hs)
  show LeavesInM _ _ _ _ _ _ a.defers _ _
  rw [ha.defers]; exact this
end
end Go.Proofs.YtemmnpgebpffbaaGreat
