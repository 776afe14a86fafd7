/- The engine: steps that are found by instances. -/
import Derived.Test.YtokoopdkofgabaaEng7
namespace Go.Proofs.Ytokoopdkofgabaa
open Go.RowKit

/-- Element number q of a list is v. -/
class Get (l : List Value) (q : Nat) (v : outParam Value) : Prop where h : l[q]? = some v
instance (u : Value) (r : List Value) : Get (u :: r) 0 u := ⟨rfl⟩
instance (u : Value) (r : List Value) (q : Nat) (v : Value) [h : Get r q v] : Get (u :: r) (q + 1) v := ⟨by simpa using h.h⟩
class Tk (l : List Value) (s : Nat) (o : outParam (List Value)) : Prop where h : l.take s = o ∧ o.length = s
instance (l : List Value) : Tk l 0 [] := ⟨by simp⟩
instance (u : Value) (r : List Value) (s : Nat) (o : List Value) [h : Tk r s o] : Tk (u :: r) (s + 1) (u :: o) := ⟨by obtain ⟨h1, h2⟩ := h.h; simp [h1, h2]⟩
/-- The s elements from number q on. -/
class Cut (l : List Value) (q s : Nat) (o : outParam (List Value)) : Prop where h : (l.drop q).take s = o ∧ o.length = s
instance (l : List Value) (s : Nat) (o : List Value) [h : Tk l s o] : Cut l 0 s o := ⟨by simpa using h.h⟩
class SetAt (l : List Value) (q : Nat) (v : Value) (o : outParam (List Value)) : Prop where h : l.set q v = o ∧ q < l.length
instance (u : Value) (r : List Value) (v : Value) : SetAt (u :: r) 0 v (v :: r) := ⟨by simp⟩
instance (u : Value) (r : List Value) (q : Nat) (v : Value) (o : List Value) [h : SetAt r q v o] : SetAt (u :: r) (q + 1) v (u :: o) := ⟨by obtain ⟨h1, h2⟩ := h.h; simp [h1]; omega⟩
class NAdd (a b : Nat) (c : outParam Nat) : Prop where h : a + b = c
instance (priority := 10) (a b : Nat) : NAdd a b (a + b) := ⟨rfl⟩
instance (priority := 100) (a : Nat) : NAdd a 0 a := ⟨rfl⟩
instance (priority := 200) (b : Nat) : NAdd 0 b b := ⟨Nat.zero_add b⟩
class NMul (a b : Nat) (c : outParam Nat) : Prop where h : a * b = c
instance (priority := 10) (a b : Nat) : NMul a b (a * b) := ⟨rfl⟩
instance (priority := 100) (a : Nat) : NMul a 1 a := ⟨Nat.mul_one a⟩
instance (priority := 200) (b : Nat) : NMul 0 b 0 := ⟨Nat.zero_mul b⟩

class HasC (H : List HE) (x : HE) (R : outParam (List HE)) : Prop where h : Has H x R
instance (priority := 100) (x : HE) (r : List HE) : HasC (x :: r) x r := ⟨.here _ _⟩
instance (priority := 10) (x y : HE) (r R : List HE) [h : HasC r x R] : HasC (y :: r) x (y :: R) := ⟨.there y h.h⟩
class SubC (S H : List HE) : Prop where h : Sub S H
instance (H : List HE) : SubC [] H := ⟨.nil _⟩
instance (x : HE) (S H R : List HE) [h : HasC H x R] [k : SubC S R] : SubC (x :: S) H := ⟨.cons h.h k.h⟩
theorem Sub.au {S H : List HE} [h : SubC S H] : Sub S H := h.h
class SplitC (H S : List HE) (R : outParam (List HE)) : Prop where h : Split H S R
instance (H : List HE) : SplitC H [] H := ⟨.nil _⟩
instance (x : HE) (S H R T : List HE) [h : HasC H x R] [k : SplitC R S T] : SplitC H (x :: S) T := ⟨.cons h.h k.h⟩
/-- Block b is on the list, and the list with it turned. -/
class At (b : Nat) (H : List HE) (t : outParam TypeId) (cs : outParam (List Value)) (k : outParam (HE → List HE)) : Prop where h : ∃ R, Has H (.blk b t cs) R ∧ ∀ x, Sub (k x) (x :: R)
theorem Sub.of_perm_cons {S R : List HE} {x y : HE} (h : Sub S (x :: R)) : Sub (y :: S) (x :: y :: R) := by
  refine .cons (.there x (.here y R)) h
instance (priority := 100) (b : Nat) (t : TypeId) (cs : List Value) (r : List HE) : At b (.blk b t cs :: r) t cs (fun x => x :: r) := ⟨r, .here _ _, fun _ => Sub.refl _⟩
instance (priority := 10) (b : Nat) (y : HE) (r : List HE) (t : TypeId) (cs : List Value) (k : HE → List HE) [h : At b r t cs k] : At b (y :: r) t cs (fun x => y :: k x) :=
  ⟨let ⟨R, h1, h2⟩ := h.h; ⟨y :: R, .there y h1, fun x => Sub.of_perm_cons (h2 x)⟩⟩
/-- A row at block b is on the list. -/
class AtRow (b : Nat) (H : List HE) (m c e s : outParam Nat) (xs : outParam (List Value)) (k : outParam (HE → List HE)) : Prop where h : ∃ R, Has H (.row (.slice (some ⟨b, 0, none⟩) m c) e s m xs) R ∧ ∀ x, Sub (k x) (x :: R)
instance (priority := 100) (b m c e s : Nat) (xs : List Value) (r : List HE) : AtRow b (.row (.slice (some ⟨b, 0, none⟩) m c) e s m xs :: r) m c e s xs (fun x => x :: r) := ⟨r, .here _ _, fun _ => Sub.refl _⟩
instance (priority := 10) (b m c e s : Nat) (y : HE) (xs : List Value) (r : List HE) (k : HE → List HE) [h : AtRow b r m c e s xs k] : AtRow b (y :: r) m c e s xs (fun x => y :: k x) :=
  ⟨let ⟨R, h1, h2⟩ := h.h; ⟨y :: R, .there y h1, fun x => Sub.of_perm_cons (h2 x)⟩⟩

/-- Numbers as cells. -/
def ints (k : IntKind) (ys : List Int) : List Value := ys.map (.int k)
@[simp] theorem ints_len (k : IntKind) (ys : List Int) : (ints k ys).length = ys.length := by simp [ints]
/-- What element number q of a list of cells is, and what it takes. -/
class Elem (xs : List Value) (q : Nat) (v : outParam Value) (c : outParam Prop) : Prop where h : c → xs[q]? = some v
instance (priority := 100) (k : IntKind) (ys : List Int) (q : Nat) : Elem (ints k ys) q (.int k (ys.getD q 0)) (q < ys.length) := ⟨fun h => by simp [ints, List.getD_eq_getElem?_getD, h]⟩
class ESet (xs : List Value) (q : Nat) (v : Value) (ys : outParam (List Value)) (c : outParam Prop) : Prop where h : c → xs.set q v = ys ∧ q < xs.length
instance (priority := 100) (k : IntKind) (ys : List Int) (q : Nat) (e : Int) : ESet (ints k ys) q (.int k e) (ints k (ys.set q e)) (q < ys.length) := ⟨fun h => by simp [ints, h]⟩
/-- A slice in memory that nobody writes: from cell off of block b on it reads as xs. -/
class RoAt (w0 : World) (W : Nat → Prop) (b off : Nat) (xs : outParam (List Value)) : Prop where h : b < w0.heap.size ∧ ¬ W b ∧ ∀ j v, xs[j]? = some v → w0.cell? ⟨b, off + j, none⟩ = some v

section
variable (P : Program) (w0 : World) (W : Nat → Prop) (H : List HE)

/-- A step that yields v and leaves memory alone, under c. -/
class MS (op : Op) (vs : List Value) (v : outParam Value) (c : outParam Prop) : Prop where
  h : c → ∀ {F : Fence} {n N : Nat} {ds : List Deferred} {σ : List (Nat × Value)} {d : Nat} {ty : TypeId} {pos : String} {aft : Array Edge} {gd : Option (Nat × Bool)} {K : Act → World → Prop} {Q : Exit → Act → World → Prop} [Wide F],
    vals σ op.operands.toList = some vs → Nat.blt d N = true → J N ds w0 W ((d, v) :: σ) H K → OJ F n P N ds w0 W σ H ⟨some d, op, ty, pos, aft, gd⟩ K Q
/-- The same, numbers that may wrap round. -/
class MW (op : Op) (vs : List Value) (v : outParam Value) (c : outParam Prop) : Prop where
  h : c → ∀ {F : Fence} {n N : Nat} {ds : List Deferred} {σ : List (Nat × Value)} {d : Nat} {ty : TypeId} {pos : String} {aft : Array Edge} {gd : Option (Nat × Bool)} {K : Act → World → Prop} {Q : Exit → Act → World → Prop} [Wide F],
    vals σ op.operands.toList = some vs → Nat.blt d N = true → J N ds w0 W ((d, v) :: σ) H K → OJ F n P N ds w0 W σ H ⟨some d, op, ty, pos, aft, gd⟩ K Q
/-- A step that yields nothing and turns memory. -/
class SS (op : Op) (vs : List Value) (H' : outParam (List HE)) (c : outParam Prop) : Prop where
  h : c → ∀ {F : Fence} {n N : Nat} {ds : List Deferred} {σ : List (Nat × Value)} {ty : TypeId} {pos : String} {aft : Array Edge} {gd : Option (Nat × Bool)} {K : Act → World → Prop} {Q : Exit → Act → World → Prop} [Wide F],
    vals σ op.operands.toList = some vs → J N ds w0 W σ H' K → OJ F n P N ds w0 W σ H ⟨none, op, ty, pos, aft, gd⟩ K Q
/-- A step that makes a new block. -/
class NS (op : Op) (vs : List Value) (v : outParam (Nat → Value)) (H' : outParam (Nat → List HE)) (c : outParam Prop) : Prop where
  h : c → ∀ {F : Fence} {n N : Nat} {ds : List Deferred} {σ : List (Nat × Value)} {d : Nat} {ty : TypeId} {pos : String} {aft : Array Edge} {gd : Option (Nat × Bool)} {K : Act → World → Prop} {Q : Exit → Act → World → Prop} [Wide F],
    vals σ op.operands.toList = some vs → Nat.blt d N = true → (∀ b, J N ds w0 W ((d, v b) :: σ) (H' b) K) → OJ F n P N ds w0 W σ H ⟨some d, op, ty, pos, aft, gd⟩ K Q
end

theorem vals1 {σ : List (Nat × Value)} {x : Operand} {v : Value} (h : vals σ [x] = some [v]) : ev σ x = some v := by
  simp only [vals] at h
  cases hx : ev σ x <;> simp [hx] at h
  simp [h]
theorem vals2 {σ : List (Nat × Value)} {x y : Operand} {v u : Value} (h : vals σ [x, y] = some [v, u]) : ev σ x = some v ∧ ev σ y = some u := by
  simp only [vals] at h
  cases hx : ev σ x <;> simp [hx] at h
  cases hy : ev σ y <;> simp [hy] at h
  simp [h]
theorem vals3 {σ : List (Nat × Value)} {x y z : Operand} {v u t : Value} (h : vals σ [x, y, z] = some [v, u, t]) : ev σ x = some v ∧ ev σ y = some u ∧ ev σ z = some t := by
  simp only [vals] at h
  cases hx : ev σ x <;> simp [hx] at h
  cases hy : ev σ y <;> simp [hy] at h
  cases hz : ev σ z <;> simp [hz] at h
  simp [h]

class NoAgg (dd : TypeDesc) : Prop where h : aggB dd = false
class YesAgg (dd : TypeDesc) : Prop where h : aggB dd = true

/-- A quotient. -/
def quN (a b : Nat) : Nat := a / b
theorem quN_cast (a b : Nat) : ((quN a b : Nat) : Int) = (a : Int) / (b : Int) := by simp [quN]
theorem quN_le (a b : Nat) : quN a b ≤ a := Nat.div_le_self _ _
/-- A shift to the right. -/
def shN (a b : Nat) : Nat := a / 2 ^ b
theorem shN_le (a b : Nat) : shN a b ≤ a := Nat.div_le_self _ _
section
variable {P : Program} {w0 : World} {W : Nat → Prop} {H : List HE}
theorem opnds1 {op : Op} {x : Operand} (h : op.operands = #[x]) {σ : List (Nat × Value)} {v : Value} (k : vals σ op.operands.toList = some [v]) : ev σ x = some v := vals1 (by rw [h] at k; exact k)
theorem opnds2 {op : Op} {x y : Operand} (h : op.operands = #[x, y]) {σ : List (Nat × Value)} {v u : Value} (k : vals σ op.operands.toList = some [v, u]) : ev σ x = some v ∧ ev σ y = some u := vals2 (by rw [h] at k; exact k)

instance (x : Operand) (v : Value) : MS P w0 W H (.move x) [v] v True := ⟨fun _ _ _ _ _ _ _ _ _ _ _ _ _ _ h1 h2 h3 => r_move (opnds1 rfl h1) h2 h3⟩
instance (x : Operand) (v : Value) : MS P w0 W H (.assign x) [v] v True := ⟨fun _ _ _ _ _ _ _ _ _ _ _ _ _ _ h1 h2 h3 => r_assign (opnds1 rfl h1) h2 h3⟩
instance (c x y : Operand) (u v : Value) : MS P w0 W H (.pick c x y) [.bool true, u, v] u True := ⟨fun _ _ _ _ _ _ _ _ _ _ _ _ _ _ h1 h2 h3 => let ⟨a, b, _⟩ := vals3 h1; r_pickT a b h2 h3⟩
instance (c x y : Operand) (u v : Value) : MS P w0 W H (.pick c x y) [.bool false, u, v] v True := ⟨fun _ _ _ _ _ _ _ _ _ _ _ _ _ _ h1 h2 h3 => let ⟨a, _, b⟩ := vals3 h1; r_pickF a b h2 h3⟩
instance (x : Operand) (p : Addr) : MS P w0 W H (.nilCheck x) [.pointer (some p)] (.pointer (some p)) True := ⟨fun _ _ _ _ _ _ _ _ _ _ _ _ _ _ h1 h2 h3 => r_nil (opnds1 rfl h1) h2 h3⟩
instance (x : Operand) (i : Nat) (vs : List Value) (v : Value) [hg : Get vs i v] : MS P w0 W H (.extract x i) [.tuple vs.toArray] v True := ⟨fun _ _ _ _ _ _ _ _ _ _ _ _ _ _ h1 h2 h3 => r_extract (opnds1 rfl h1) (by simpa using hg.h) h2 h3⟩

instance (t u : TypeId) (x y : Operand) (k : IntKind) (a b : Int) : MS P w0 W H (.binOp .add t x y u) [.int k a, .int k b] (.int k (a + b)) (InR k (a + b)) := ⟨fun hc _ _ _ _ _ _ _ _ _ _ _ _ _ h1 h2 h3 => let ⟨p, q⟩ := vals2 h1; r_ari p q rfl hc h2 h3⟩
instance (t u : TypeId) (x y : Operand) (k : IntKind) (a b : Int) : MS P w0 W H (.binOp .sub t x y u) [.int k a, .int k b] (.int k (a - b)) (InR k (a - b)) := ⟨fun hc _ _ _ _ _ _ _ _ _ _ _ _ _ h1 h2 h3 => let ⟨p, q⟩ := vals2 h1; r_ari p q rfl hc h2 h3⟩
instance (t u : TypeId) (x y : Operand) (k : IntKind) (a b : Int) : MS P w0 W H (.binOp .mul t x y u) [.int k a, .int k b] (.int k (a * b)) (InR k (a * b)) := ⟨fun hc _ _ _ _ _ _ _ _ _ _ _ _ _ h1 h2 h3 => let ⟨p, q⟩ := vals2 h1; r_ari p q rfl hc h2 h3⟩
instance (t u : TypeId) (x y : Operand) (k : IntKind) (a b : Int) : MS P w0 W H (.binOp .quo t x y u) [.int k a, .int k b] (.int k (a / b)) (0 ≤ a ∧ 0 < b ∧ InR k a) := ⟨fun hc _ _ _ _ _ _ _ _ _ _ _ _ _ h1 h2 h3 => let ⟨p, q⟩ := vals2 h1; r_quo_in p q hc.1 hc.2.1 hc.2.2 h2 h3⟩
instance (t u : TypeId) (x y : Operand) (k : IntKind) (a b : Int) : MS P w0 W H (.binOp .rem t x y u) [.int k a, .int k b] (.int k (a % b)) (0 ≤ a ∧ 0 < b) := ⟨fun hc _ _ _ _ _ _ _ _ _ _ _ _ _ h1 h2 h3 => let ⟨p, q⟩ := vals2 h1; r_rem_in p q hc.1 hc.2 h2 h3⟩
instance (priority := 2000) (t u : TypeId) (x y : Operand) (k : IntKind) (a b : Nat) : MS P w0 W H (.binOp .quo t x y u) [.int k (a : Int), .int k (b : Int)] (.int k ((quN a b : Nat) : Int)) (0 < b ∧ InR k (a : Int)) := ⟨fun hc _ _ _ _ _ _ _ _ _ _ _ _ _ h1 h2 h3 => let ⟨p, q⟩ := vals2 h1; r_quo_in p q (by omega) (by omega) hc.2 h2 (by rw [← quN_cast]; exact h3)⟩
instance (priority := 2000) (t u : TypeId) (x y : Operand) (k : IntKind) (a : Int) : MS P w0 W H (.binOp .eql t x y u) [.int k a, .int k a] (.bool true) True := ⟨fun _ _ _ _ _ _ _ _ _ _ _ _ _ _ h1 h2 h3 => let ⟨p, q⟩ := vals2 h1; r_bin p q (by simp [binv]) h2 h3⟩
instance (priority := 2000) (t u : TypeId) (x y : Operand) (k : IntKind) (a : Int) : MS P w0 W H (.binOp .neq t x y u) [.int k a, .int k a] (.bool false) True := ⟨fun _ _ _ _ _ _ _ _ _ _ _ _ _ _ h1 h2 h3 => let ⟨p, q⟩ := vals2 h1; r_bin p q (by simp [binv]) h2 h3⟩
instance (t u : TypeId) (x y : Operand) (k : IntKind) (a b : Int) : MW P w0 W H (.binOp .quo t x y u) [.int k a, .int k b] (.int k (k.wrap (a.tdiv b))) (b ≠ 0) := ⟨fun hc _ _ _ _ _ _ _ _ _ _ _ _ _ h1 h2 h3 => let ⟨p, q⟩ := vals2 h1; r_quo p q hc h2 h3⟩
instance (t u : TypeId) (x y : Operand) (k : IntKind) (a b : Int) : MW P w0 W H (.binOp .rem t x y u) [.int k a, .int k b] (.int k (a.tmod b)) (b ≠ 0) := ⟨fun hc _ _ _ _ _ _ _ _ _ _ _ _ _ h1 h2 h3 => let ⟨p, q⟩ := vals2 h1; r_rem p q hc h2 h3⟩
instance (t u : TypeId) (x y : Operand) (k : IntKind) (a b : Int) : MW P w0 W H (.binOp .add t x y u) [.int k a, .int k b] (.int k (k.wrap (a + b))) True := ⟨fun _ _ _ _ _ _ _ _ _ _ _ _ _ _ h1 h2 h3 => let ⟨p, q⟩ := vals2 h1; r_bin p q rfl h2 h3⟩
instance (t u : TypeId) (x y : Operand) (k : IntKind) (a b : Int) : MW P w0 W H (.binOp .mul t x y u) [.int k a, .int k b] (.int k (k.wrap (a * b))) True := ⟨fun _ _ _ _ _ _ _ _ _ _ _ _ _ _ h1 h2 h3 => let ⟨p, q⟩ := vals2 h1; r_bin p q rfl h2 h3⟩
instance (t u : TypeId) (x y : Operand) (k : IntKind) (a b : Int) : MS P w0 W H (.binOp .and t x y u) [.int k a, .int k b] (.int k (bits .and k a b)) True := ⟨fun _ _ _ _ _ _ _ _ _ _ _ _ _ _ h1 h2 h3 => let ⟨p, q⟩ := vals2 h1; r_bin p q rfl h2 h3⟩
instance (t u : TypeId) (x y : Operand) (k : IntKind) (a b : Int) : MS P w0 W H (.binOp .or t x y u) [.int k a, .int k b] (.int k (bits .or k a b)) True := ⟨fun _ _ _ _ _ _ _ _ _ _ _ _ _ _ h1 h2 h3 => let ⟨p, q⟩ := vals2 h1; r_bin p q rfl h2 h3⟩
instance (t u : TypeId) (x y : Operand) (k : IntKind) (a b : Int) : MS P w0 W H (.binOp .xor t x y u) [.int k a, .int k b] (.int k (bits .xor k a b)) True := ⟨fun _ _ _ _ _ _ _ _ _ _ _ _ _ _ h1 h2 h3 => let ⟨p, q⟩ := vals2 h1; r_bin p q rfl h2 h3⟩
instance (t u : TypeId) (x y : Operand) (k : IntKind) (a b : Int) : MS P w0 W H (.binOp .eql t x y u) [.int k a, .int k b] (.bool (a == b)) True := ⟨fun _ _ _ _ _ _ _ _ _ _ _ _ _ _ h1 h2 h3 => let ⟨p, q⟩ := vals2 h1; r_bin p q rfl h2 h3⟩
instance (t u : TypeId) (x y : Operand) (k : IntKind) (a b : Int) : MS P w0 W H (.binOp .neq t x y u) [.int k a, .int k b] (.bool (a != b)) True := ⟨fun _ _ _ _ _ _ _ _ _ _ _ _ _ _ h1 h2 h3 => let ⟨p, q⟩ := vals2 h1; r_bin p q rfl h2 h3⟩
instance (t u : TypeId) (x y : Operand) (k : IntKind) (a b : Int) : MS P w0 W H (.binOp .lss t x y u) [.int k a, .int k b] (.bool (decide (a < b))) True := ⟨fun _ _ _ _ _ _ _ _ _ _ _ _ _ _ h1 h2 h3 => let ⟨p, q⟩ := vals2 h1; r_bin p q rfl h2 h3⟩
instance (t u : TypeId) (x y : Operand) (k : IntKind) (a b : Int) : MS P w0 W H (.binOp .leq t x y u) [.int k a, .int k b] (.bool (decide (a ≤ b))) True := ⟨fun _ _ _ _ _ _ _ _ _ _ _ _ _ _ h1 h2 h3 => let ⟨p, q⟩ := vals2 h1; r_bin p q rfl h2 h3⟩
instance (t u : TypeId) (x y : Operand) (k : IntKind) (a b : Int) : MS P w0 W H (.binOp .gtr t x y u) [.int k a, .int k b] (.bool (decide (b < a))) True := ⟨fun _ _ _ _ _ _ _ _ _ _ _ _ _ _ h1 h2 h3 => let ⟨p, q⟩ := vals2 h1; r_bin p q rfl h2 h3⟩
instance (t u : TypeId) (x y : Operand) (k : IntKind) (a b : Int) : MS P w0 W H (.binOp .geq t x y u) [.int k a, .int k b] (.bool (decide (b ≤ a))) True := ⟨fun _ _ _ _ _ _ _ _ _ _ _ _ _ _ h1 h2 h3 => let ⟨p, q⟩ := vals2 h1; r_bin p q rfl h2 h3⟩
instance (t u : TypeId) (x y : Operand) (a b : Bool) [Und P t .bool] : MS P w0 W H (.binOp .neq t x y u) [.bool a, .bool b] (.bool (!(a == b))) True := ⟨fun _ _ _ _ _ _ _ _ _ _ _ _ _ _ h1 h2 h3 => let ⟨p, q⟩ := vals2 h1; r_neB p q h2 h3⟩
instance (t u : TypeId) (x y : Operand) (k k' : IntKind) (a b : Int) : MW P w0 W H (.binOp .shl t x y u) [.int k a, .int k' b] (.int k (k.wrap (a * 2 ^ (min b.toNat k.bits)))) (0 ≤ b) := ⟨fun hc _ _ _ _ _ _ _ _ _ _ _ _ _ h1 h2 h3 => let ⟨p, q⟩ := vals2 h1; r_shl p q hc h2 h3⟩
instance (priority := 10) (t u : TypeId) (x y : Operand) (k k' : IntKind) (a b : Int) : MS P w0 W H (.binOp .shr t x y u) [.int k a, .int k' b] (.int k (a / 2 ^ b.toNat)) (0 ≤ b ∧ LeB k b.toNat) := ⟨fun hc _ _ _ _ _ _ _ _ _ _ _ _ _ h1 h2 h3 => let ⟨p, q⟩ := vals2 h1; r_shr p q hc.1 h2 (by rw [Nat.min_eq_left (leB hc.2), Int.fdiv_eq_ediv_of_nonneg _ (Int.le_of_lt (Int.pow_pos (by decide)))]; exact h3)⟩
instance (priority := 50) (t u : TypeId) (x y : Operand) (k k' : IntKind) (a : Int) (b : Nat) : MS P w0 W H (.binOp .shr t x y u) [.int k a, .int k' (b : Int)] (.int k (a / 2 ^ b)) (LeB k b) := ⟨fun hc _ _ _ _ _ _ _ _ _ _ _ _ _ h1 h2 h3 => let ⟨p, q⟩ := vals2 h1; r_shr p q (by omega) h2 (by rw [Int.toNat_natCast, Nat.min_eq_left (leB hc), Int.fdiv_eq_ediv_of_nonneg _ (Int.le_of_lt (Int.pow_pos (by decide)))]; exact h3)⟩
instance (priority := 100) (t u : TypeId) (x y : Operand) (k k' : IntKind) (a b : Nat) : MS P w0 W H (.binOp .shr t x y u) [.int k (a : Int), .int k' (b : Int)] (.int k ((shN a b : Nat) : Int)) (LeB k b) := ⟨fun hc _ _ _ _ _ _ _ _ _ _ _ _ _ h1 h2 h3 => let ⟨p, q⟩ := vals2 h1; r_shrN p q (leB hc) h2 h3⟩
theorem lit_toNat (b : Nat) : (OfNat.ofNat b : Int).toNat = (OfNat.ofNat b : Nat) := by
  show (Int.ofNat b).toNat = b
  rfl
theorem lit_nonneg (b : Nat) : (0 : Int) ≤ (OfNat.ofNat b : Int) := Int.natCast_nonneg b
instance (priority := 40) (t u : TypeId) (x y : Operand) (k k' : IntKind) (a : Int) (b : Nat) : MS P w0 W H (.binOp .shl t x y u) [.int k a, .int k' (no_index (OfNat.ofNat b : Int))] (.int k (a * 2 ^ (OfNat.ofNat b : Nat))) (LeB k (OfNat.ofNat b : Nat) ∧ InR k (a * 2 ^ (OfNat.ofNat b : Nat))) := ⟨fun hc _ _ _ _ _ _ _ _ _ _ _ _ _ h1 h2 h3 => let ⟨p, q⟩ := vals2 h1; r_shl p q (lit_nonneg b) h2 (by rw [lit_toNat, Nat.min_eq_left (leB hc.1), wrap_in hc.2]; exact h3)⟩
instance (priority := 40) (t u : TypeId) (x y : Operand) (k k' : IntKind) (a : Int) (b : Nat) : MS P w0 W H (.binOp .shr t x y u) [.int k a, .int k' (no_index (OfNat.ofNat b : Int))] (.int k (a / 2 ^ (OfNat.ofNat b : Nat))) (LeB k (OfNat.ofNat b : Nat)) := ⟨fun hc _ _ _ _ _ _ _ _ _ _ _ _ _ h1 h2 h3 => let ⟨p, q⟩ := vals2 h1; r_shr p q (lit_nonneg b) h2 (by rw [lit_toNat, Nat.min_eq_left (leB hc), Int.fdiv_eq_ediv_of_nonneg _ (Int.le_of_lt (Int.pow_pos (by decide)))]; exact h3)⟩
instance (t : TypeId) (x : Operand) (a : Bool) : MS P w0 W H (.unOp .not t x) [.bool a] (.bool (!a)) True := ⟨fun _ _ _ _ _ _ _ _ _ _ _ _ _ _ h1 h2 h3 => r_not (opnds1 rfl h1) h2 h3⟩
instance (priority := 2000) (t : TypeId) (x : Operand) : MS P w0 W H (.unOp .not t x) [.bool true] (.bool false) True := ⟨fun _ _ _ _ _ _ _ _ _ _ _ _ _ _ h1 h2 h3 => r_not (opnds1 rfl h1) h2 h3⟩
instance (priority := 2000) (t : TypeId) (x : Operand) : MS P w0 W H (.unOp .not t x) [.bool false] (.bool true) True := ⟨fun _ _ _ _ _ _ _ _ _ _ _ _ _ _ h1 h2 h3 => r_not (opnds1 rfl h1) h2 h3⟩
instance (t : TypeId) (x : Operand) (k : IntKind) (a : Int) : MW P w0 W H (.unOp .neg t x) [.int k a] (.int k (k.wrap (0 - a))) True := ⟨fun _ _ _ _ _ _ _ _ _ _ _ _ _ _ h1 h2 h3 => r_neg (opnds1 rfl h1) h2 h3⟩
instance (s t : TypeId) (x : Operand) (k k' : IntKind) (a : Int) (dd : TypeDesc) [Und P s dd] [Und P t (.int k')] : MS P w0 W H (.convert s t x) [.int k a] (.int k' a) (InR k' a) := ⟨fun hc _ _ _ _ _ _ _ _ _ _ _ _ _ h1 h2 h3 => r_conv_in (s := s) (opnds1 rfl h1) hc h2 h3⟩
instance (s t : TypeId) (x : Operand) (k k' : IntKind) (a : Int) (dd : TypeDesc) [Und P s dd] [Und P t (.int k')] : MW P w0 W H (.convert s t x) [.int k a] (.int k' (k'.wrap a)) True := ⟨fun _ _ _ _ _ _ _ _ _ _ _ _ _ _ h1 h2 h3 => r_conv (s := s) (opnds1 rfl h1) h2 h3⟩
instance (s f off b q r : Nat) (x : Operand) [Fa P s f off] [hr : NAdd q off r] : MS P w0 W H (.fieldAddr s x f) [.pointer (some ⟨b, q, none⟩)] (.pointer (some ⟨b, r, none⟩)) True := ⟨fun _ _ _ _ _ _ _ _ _ _ _ _ _ _ h1 h2 h3 => r_fieldAddr (opnds1 rfl h1) h2 (by rw [hr.h]; exact h3)⟩
instance (x : Operand) (t e : TypeId) (A : Option Addr) (m c : Nat) [Und P t (.slice e)] : MS P w0 W H (.call ⟨.builtin .len, #[x], #[t]⟩) [.slice A m c] (.int .i64 m) True := ⟨fun _ _ _ _ _ _ _ _ _ _ _ _ _ _ h1 h2 h3 => r_len (t := t) (opnds1 rfl h1) h2 h3⟩
instance (x y : Operand) (ts : Array TypeId) (k : IntKind) (p q : Int) : MS P w0 W H (.call ⟨.builtin .min, #[x, y], ts⟩) [.int k p, .int k q] (.int k (min p q)) True := ⟨fun _ _ _ _ _ _ _ _ _ _ _ _ _ _ h1 h2 h3 => let ⟨a, b⟩ := opnds2 rfl h1; r_min a b h2 h3⟩
theorem vals_all {σ : List (Nat × Value)} : ∀ {l : List Operand} {vs : List Value}, vals σ l = some vs → ∀ {N : Nat} {ds : List Deferred} (a : Act), Tm N ds σ a → l.map a.eval = vs := fun h _ _ _ ha => vals_map ha h
instance (fn : Fn) (captured : Array Operand) (vs : List Value) : MS P w0 W H (.makeFunc fn #[] captured) vs (.func fn #[] vs.toArray) True := ⟨fun _ _ _ _ _ _ _ _ _ _ _ _ _ _ h1 h2 h3 => r_makeFunc (xs := #[]) (ys := vs.toArray) (fun a ha => ⟨by simp, by
  have := vals_all h1 a ha
  rw [← this]
  apply Array.ext'
  simp [Op.operands]⟩) h2 h3⟩
instance (priority := 100) (x y : Operand) (t e b q m c sz bs j r r' : Nat) (z : Value) (k : IntKind) [Und P t (.slice e)] [Inf P e sz bs z] [hm : NMul j sz r] [hr : NAdd q r r'] : MS P w0 W H (.indexAddr t x y) [.slice (some ⟨b, q, none⟩) m c, .int k (j : Int)] (.pointer (some ⟨b, r', none⟩)) (j < m) :=
  ⟨fun hc _ _ _ _ _ _ _ _ _ _ _ _ _ h1 h2 h3 => let ⟨p1, p2⟩ := vals2 h1; r_indexAddr (t := t) (i := j) p1 p2 hc h2 (by rw [hm.h, hr.h]; exact h3)⟩
instance (priority := 10) (x y : Operand) (t e b q m c sz bs r r' : Nat) (i : Int) (z : Value) (k : IntKind) [Und P t (.slice e)] [Inf P e sz bs z] [hm : NMul i.toNat sz r] [hr : NAdd q r r'] : MS P w0 W H (.indexAddr t x y) [.slice (some ⟨b, q, none⟩) m c, .int k i] (.pointer (some ⟨b, r', none⟩)) (0 ≤ i ∧ i < m) :=
  ⟨fun hc _ _ _ _ _ _ _ _ _ _ _ _ _ h1 h2 h3 => let ⟨p1, p2⟩ := vals2 h1; r_indexAt (t := t) i.toNat p1 p2 (by omega) (by omega) h2 (by rw [hm.h, hr.h]; exact h3)⟩

instance : NoAgg .bool := ⟨rfl⟩
instance (k : IntKind) : NoAgg (.int k) := ⟨rfl⟩
instance (e : TypeId) : NoAgg (.slice e) := ⟨rfl⟩
instance (e : TypeId) : NoAgg (.pointer e) := ⟨rfl⟩
instance (priority := 100) (t tb b q : Nat) (dd : TypeDesc) (x : Operand) (v : Value) (cs : List Value) (k : HE → List HE) [Und P t dd] [hd : NoAgg dd] [h : At b H tb cs k] [hg : Get cs q v] : MS P w0 W H (.load t x) [.pointer (some ⟨b, q, none⟩)] v True :=
  ⟨fun _ _ _ _ _ _ _ _ _ _ _ _ _ _ h1 h2 h3 => let ⟨_, h4, _⟩ := h.h; r_load (t := t) (opnds1 rfl h1) hd.h (Cell.blk h4 hg.h) h2 h3⟩
instance (priority := 100) (t tb b q sz bs : Nat) (z : Value) (dd : TypeDesc) (x : Operand) (o cs : List Value) (k : HE → List HE) [Und P t dd] [hd : YesAgg dd] [Inf P t sz bs z] [h : At b H tb cs k] [hg : Cut cs q sz o] : MS P w0 W H (.load t x) [.pointer (some ⟨b, q, none⟩)] (.agg o.toArray) True :=
  ⟨fun _ _ _ _ _ _ _ _ _ _ _ _ _ _ h1 h2 h3 => let ⟨_, h4, _⟩ := h.h; r_loadAgg (t := t) (opnds1 rfl h1) hd.h (Range.cut h4 hg.h.1) hg.h.2 h2 h3⟩
instance (priority := 50) (t b q m c e s : Nat) (dd : TypeDesc) (x : Operand) (v : Value) (p : Prop) (xs : List Value) (k : HE → List HE) [Und P t dd] [hd : NoAgg dd] [h : AtRow b H m c e s xs k] [hg : Elem xs q v p] : MS P w0 W H (.load t x) [.pointer (some ⟨b, q, none⟩)] v p :=
  ⟨fun hc _ _ _ _ _ _ _ _ _ _ _ _ _ h1 h2 h3 => let ⟨_, h4, _⟩ := h.h; r_load (t := t) (opnds1 rfl h1) hd.h (Cell.row h4 (hg.h hc)) h2 h3⟩
/-- In memory that nobody writes: cell number q of block b. -/
class RoGet (w0 : World) (W : Nat → Prop) (b q : Nat) (v : outParam Value) (c : outParam Prop) : Prop where h : c → b < w0.heap.size ∧ ¬ W b ∧ w0.cell? ⟨b, q, none⟩ = some v
instance (priority := 30) (t b q : Nat) (dd : TypeDesc) (x : Operand) (v : Value) (p : Prop) [Und P t dd] [hd : NoAgg dd] [hr : RoGet w0 W b q v p] : MS P w0 W H (.load t x) [.pointer (some ⟨b, q, none⟩)] v p :=
  ⟨fun hc _ _ _ _ _ _ _ _ _ _ _ _ _ h1 h2 h3 => let ⟨e1, e2, e3⟩ := hr.h hc; r_load (t := t) (opnds1 rfl h1) hd.h (Cell.old e1 e2 e3) h2 h3⟩
class One (v : Value) : Prop where h : v.oneCell' = true
instance (k : IntKind) (n : Int) : One (.int k n) := ⟨rfl⟩
instance (b : Bool) : One (.bool b) := ⟨rfl⟩
instance (a : Option Addr) (m c : Nat) : One (.slice a m c) := ⟨rfl⟩
instance (priority := 100) (t tb b q bs : Nat) (z : Value) (x y : Operand) (v : Value) (cs cs' : List Value) (k : HE → List HE) [Inf P t 1 bs z] [h1 : One v] [h : At b H tb cs k] [hs : SetAt cs q v cs'] : SS P w0 W H (.store t x y) [.pointer (some ⟨b, q, none⟩), v] (k (.blk b tb cs')) True :=
  ⟨fun _ _ _ _ _ _ _ _ _ _ _ _ _ k1 k3 => let ⟨_, h4, h5⟩ := h.h; let ⟨p1, p2⟩ := vals2 k1; r_store (t := t) (by rfl) p1 p2 h1.h h4 (by have := hs.h.2; simpa using this) hs.h.1 (j_perm (h5 _) k3)⟩
instance (priority := 50) (t b q bs m c e s : Nat) (z : Value) (p : Prop) (x y : Operand) (v : Value) (xs xs' : List Value) (k : HE → List HE) [Inf P t 1 bs z] [h1 : One v] [h : AtRow b H m c e s xs k] [hs : ESet xs q v xs' p] : SS P w0 W H (.store t x y) [.pointer (some ⟨b, q, none⟩), v] (k (.row (.slice (some ⟨b, 0, none⟩) m c) e s m xs')) p :=
  ⟨fun hc _ _ _ _ _ _ _ _ _ _ _ _ k1 k3 => let ⟨_, h4, h5⟩ := h.h; let ⟨p1, p2⟩ := vals2 k1; r_storeRow (t := t) (by rfl) p1 p2 h1.h h4 (hs.h hc).2 (by rw [(hs.h hc).1]; exact j_perm (h5 _) k3)⟩
class ZC (z : Value) (zs : outParam (List Value)) : Prop where h : z.cells.toList = zs
instance (l : List Value) : ZC (.agg l.toArray) l := ⟨rfl⟩
instance (k : IntKind) (n : Int) : ZC (.int k n) [.int k n] := ⟨rfl⟩
instance (b : Bool) : ZC (.bool b) [.bool b] := ⟨rfl⟩
instance (a : Option Addr) : ZC (.pointer a) [.pointer a] := ⟨rfl⟩
instance (a : Option Addr) (m c : Nat) : ZC (.slice a m c) [.slice a m c] := ⟨rfl⟩
instance (e sz bs : Nat) (z : Value) (zs : List Value) [Inf P e sz bs z] [hz : ZC z zs] : NS P w0 W H (.alloc e) [] (fun b => .pointer (some ⟨b, 0, none⟩)) (fun b => .blk b e zs :: H) True :=
  ⟨fun _ _ _ _ _ _ _ _ _ _ _ _ _ _ _ k2 k3 => r_alloc hz.h k2 k3⟩
instance (e : Nat) (x : Operand) (v : Value) (vs : List Value) [hz : ZC v vs] : NS P w0 W H (.box e x) [v] (fun b => .pointer (some ⟨b, 0, none⟩)) (fun b => .blk b e vs :: H) True :=
  ⟨fun _ _ _ _ _ _ _ _ _ _ _ _ _ _ k1 k2 k3 => r_box (opnds1 rfl k1) hz.h k2 k3⟩
end

/-- Cells laid over others, from number q on. -/
class Over (cs : List Value) (q : Nat) (vs : List Value) (o : outParam (List Value)) : Prop where h : cs.take q ++ vs ++ cs.drop (q + vs.length) = o ∧ q + vs.length ≤ cs.length
instance (cs : List Value) : Over cs 0 [] cs := ⟨by simp⟩
instance (c v : Value) (cs vs o : List Value) [h : Over cs 0 vs o] : Over (c :: cs) 0 (v :: vs) (v :: o) := ⟨by obtain ⟨h1, h2⟩ := h.h; simp at h1 h2; simp [h1]; exact h2⟩
instance (priority := 10) (c : Value) (cs vs o : List Value) (q : Nat) [h : Over cs q vs o] : Over (c :: cs) (q + 1) vs (c :: o) := ⟨by
  obtain ⟨h1, h2⟩ := h.h
  refine ⟨?_, by simp; omega⟩
  rw [← h1, show q + 1 + vs.length = (q + vs.length) + 1 from by omega]; simp⟩
class SameLen (cs : List Value) (n : Nat) : Prop where h : cs.length = n
instance : SameLen [] 0 := ⟨rfl⟩
instance (c : Value) (cs : List Value) (n : Nat) [h : SameLen cs n] : SameLen (c :: cs) (n + 1) := ⟨by simp [h.h]⟩

class NthP (l : List (Nat × Nat)) (i : Nat) (o : outParam Nat) : Prop where h : (l.getD i (0, 0)).1 = o
instance (o s : Nat) (r : List (Nat × Nat)) : NthP ((o, s) :: r) 0 o := ⟨rfl⟩
instance (x : Nat × Nat) (r : List (Nat × Nat)) (i o : Nat) [h : NthP r i o] : NthP (x :: r) (i + 1) o := ⟨by simpa using h.h⟩
/-- A struct's cells, laid part by part. -/
class Laid (pl : List (Nat × Nat)) (zs : List Value) (us : List (Nat × Value)) (o : outParam (List Value)) : Prop where h : fillL pl zs us = o
instance (pl : List (Nat × Nat)) (zs : List Value) : Laid pl zs [] zs := ⟨rfl⟩
instance (pl : List (Nat × Nat)) (zs vs m o : List Value) (i q : Nat) (v : Value) (r : List (Nat × Value)) [h1 : NthP pl i q] [h2 : ZC v vs] [h3 : Over zs q vs m] [h4 : Laid pl m r o] : Laid pl zs ((i, v) :: r) o := ⟨by
  rw [← h4.h]
  simp only [fillL]
  rw [h1.h, h2.h, ← h3.h.1]
  rfl⟩
class AppL (a b : List Value) (o : outParam (List Value)) : Prop where h : a ++ b = o
instance (b : List Value) : AppL [] b b := ⟨rfl⟩
instance (x : Value) (a b o : List Value) [h : AppL a b o] : AppL (x :: a) b (x :: o) := ⟨by rw [List.cons_append, h.h]⟩
/-- The cells of values, one behind the other. -/
class Flat (us : List (Nat × Value)) (o : outParam (List Value)) : Prop where h : us.flatMap (fun p => p.2.cells.toList) = o
instance : Flat [] [] := ⟨rfl⟩
instance (i : Nat) (v : Value) (vs m o : List Value) (r : List (Nat × Value)) [h1 : ZC v vs] [h2 : Flat r m] [h3 : AppL vs m o] : Flat ((i, v) :: r) o := ⟨by rw [List.flatMap_cons, h2.h, h1.h, h3.h]⟩

/-- The code's frame. -/
class CC (q : Act → World → Prop) (q' : outParam (Act → World → Prop)) : Prop where
  h : ∀ {N : Nat} {ds : List Deferred} {w0 : World} {W : Nat → Prop} {σ : List (Nat × Value)} {H : List HE}, J N ds w0 W σ H q' → J N ds w0 W σ H q
section
variable {F : Fence} {n : Nat} {P : Program} {Q : Exit → Act → World → Prop} {k : Act → World → Prop}
instance (x y : Code) : CC ((Code.seq x y).wpIn F n P Q) (x.wpIn F n P (Exit.then (y.wpIn F n P Q) Q)) := ⟨c_seq⟩
instance (id : Nat) (l : List Oper) : CC ((Code.region id l.toArray false).wpIn F n P Q) (wpListIn F n P l.toArray Q l) := ⟨c_region⟩
instance (id : Nat) (c : Code) : CC ((Code.block id c).wpIn F n P Q) (c.wpIn F n P (Exit.inBlock id Q)) := ⟨c_block⟩
instance : CC (Code.skip.wpIn F n P Q) (Q .normal) := ⟨c_skip⟩
instance : CC (Code.ret.wpIn F n P Q) (Q .ret) := ⟨c_ret⟩
instance (id : Nat) : CC ((Code.exit id).wpIn F n P Q) (Q (.exit id)) := ⟨c_exit⟩
instance : CC (Exit.then k Q .normal) k := ⟨c_then_normal⟩
instance : CC (Exit.then k Q .ret) (Q .ret) := ⟨c_then_ret⟩
instance (id : Nat) : CC (Exit.then k Q (.exit id)) (Q (.exit id)) := ⟨c_then_exit⟩
instance (id : Nat) : CC (Exit.inBlock id Q .normal) (Q .normal) := ⟨c_in_normal⟩
instance (id : Nat) : CC (Exit.inBlock id Q .ret) (Q .ret) := ⟨c_in_ret⟩
instance (id : Nat) : CC (Exit.inBlock id Q (.exit id)) (Q .normal) := ⟨c_in_exit⟩
instance (ops : Array Oper) : CC (wpListIn F n P ops Q []) (Q .normal) := ⟨l_nil⟩
end
section
variable {F : Fence} {n : Nat} {P : Program} {N : Nat} {ds : List Deferred} {w0 : World} {W : Nat → Prop} {σ : List (Nat × Value)} {H : List HE} {Q : Exit → Act → World → Prop} {k k' : Act → World → Prop}
variable {ops : Array Oper} {rest : List Oper} {d : Nat} {op : Op} {ty : TypeId} {pos : String} {aft : Array Edge} {gd : Option (Nat × Bool)} {vs : List Value} {v : Value} {c : Prop} {H' : List HE}
theorem cc [h : CC k k'] (g : J N ds w0 W σ H k') : J N ds w0 W σ H k := h.h g
theorem lms [Wide F] (hw : wantd ops σ ⟨some d, op, ty, pos, aft, gd⟩ = some true) (hv : vals σ op.operands.toList = some vs) [hm : MS P w0 W H op vs v c] (hdN : Nat.blt d N = true) (hc : c) (h : J N ds w0 W ((d, v) :: σ) H (wpListIn F n P ops Q rest)) :
    J N ds w0 W σ H (wpListIn F n P ops Q (⟨some d, op, ty, pos, aft, gd⟩ :: rest)) := l_run hw (hm.h hc hv hdN h)
theorem lmw [Wide F] (hw : wantd ops σ ⟨some d, op, ty, pos, aft, gd⟩ = some true) (hv : vals σ op.operands.toList = some vs) [hm : MW P w0 W H op vs v c] (hdN : Nat.blt d N = true) (hc : c) (h : J N ds w0 W ((d, v) :: σ) H (wpListIn F n P ops Q rest)) :
    J N ds w0 W σ H (wpListIn F n P ops Q (⟨some d, op, ty, pos, aft, gd⟩ :: rest)) := l_run hw (hm.h hc hv hdN h)
theorem lss [Wide F] (hw : wantd ops σ ⟨none, op, ty, pos, aft, gd⟩ = some true) (hv : vals σ op.operands.toList = some vs) [hm : SS P w0 W H op vs H' c] (hc : c) (h : J N ds w0 W σ H' (wpListIn F n P ops Q rest)) :
    J N ds w0 W σ H (wpListIn F n P ops Q (⟨none, op, ty, pos, aft, gd⟩ :: rest)) := l_run hw (hm.h hc hv h)
theorem lns [Wide F] {f : Nat → Value} {g : Nat → List HE} (hw : wantd ops σ ⟨some d, op, ty, pos, aft, gd⟩ = some true) (hv : vals σ op.operands.toList = some vs) [hm : NS P w0 W H op vs f g c] (hdN : Nat.blt d N = true) (hc : c) (h : ∀ b, J N ds w0 W ((d, f b) :: σ) (g b) (wpListIn F n P ops Q rest)) :
    J N ds w0 W σ H (wpListIn F n P ops Q (⟨some d, op, ty, pos, aft, gd⟩ :: rest)) := l_run hw (hm.h hc hv hdN h)
theorem hms [Wide F] {T : List (Nat × Value) → Prop} (hw : wantd ops σ ⟨some d, op, ty, pos, aft, gd⟩ = some true) (hv : vals σ op.operands.toList = some vs) [hm : MS P w0 W H op vs v c] (hdN : Nat.blt d N = true) (hc : c) (h : HdJ F n P N ds w0 W H ops rest ((d, v) :: σ) T) :
    HdJ F n P N ds w0 W H ops (⟨some d, op, ty, pos, aft, gd⟩ :: rest) σ T := h_run rfl hdN hw (fun _ _ hk => hm.h hc hv hdN hk) h
theorem hmw [Wide F] {T : List (Nat × Value) → Prop} (hw : wantd ops σ ⟨some d, op, ty, pos, aft, gd⟩ = some true) (hv : vals σ op.operands.toList = some vs) [hm : MW P w0 W H op vs v c] (hdN : Nat.blt d N = true) (hc : c) (h : HdJ F n P N ds w0 W H ops rest ((d, v) :: σ) T) :
    HdJ F n P N ds w0 W H ops (⟨some d, op, ty, pos, aft, gd⟩ :: rest) σ T := h_run rfl hdN hw (fun _ _ hk => hm.h hc hv hdN hk) h
/-- How many operations stand ahead of the first that writes. -/
def quietB : Op → Bool
  | .store .. | .alloc .. | .box .. | .buildSlice .. | .mapUpdate .. | .entryStore .. => false
  | .call ⟨.builtin .append, _, _⟩ => false
  | _ => true
def lead : List Oper → Nat
  | [] => 0
  | o :: r => match o.dst, quietB o.op with
    | some _, true => lead r + 1
    | _, _ => 0
theorem c_drw {id : Nat} {l : List Oper} {m : Nat} [hF : Wide F] (hm : lead l = m) (hmx : P.follows .mixedOrders = true) (hok : drawOk l.toArray m = true)
    (h : HdJ F n P N ds w0 W H l.toArray (l.take m) σ (fun τ => J N ds w0 W τ H (wpListIn F n P l.toArray Q (l.drop m)))) : J N ds w0 W σ H ((Code.region id l.toArray true).wpIn F n P Q) := c_draw m hmx hok h
theorem lbd [Wide F] {t sz bs : Nat} {z : Value} {pl : List (Nat × Nat)} {parts : Array (Nat × Operand)} {us : List (Nat × Value)} {zs cs : List Value} [Pl P t pl] [Inf P t sz bs z] (hw : wantd ops σ ⟨some d, .build t parts, ty, pos, aft, gd⟩ = some true) (hv : evs σ parts.toList = some us)
    [hz : ZC z zs] [hl : Laid pl zs us cs] (hf : Instr.fill (pl.toArray[·]?) z.cells us = some (fillL pl z.cells.toList us).toArray) (hdN : Nat.blt d N = true)
    (h : J N ds w0 W ((d, .agg cs.toArray) :: σ) H (wpListIn F n P ops Q rest)) : J N ds w0 W σ H (wpListIn F n P ops Q (⟨some d, .build t parts, ty, pos, aft, gd⟩ :: rest)) := l_run hw (r_build hv (by rw [hz.h]; exact hl.h) hf hdN h)
theorem lsl [Wide F] {t e sz bs len : Nat} {z : Value} {parts : Array (Nat × Operand)} {us : List (Nat × Value)} {cs : List Value} [Und P t (.slice e)] [Inf P e sz bs z] (hw : wantd ops σ ⟨some d, .buildSlice t len parts, ty, pos, aft, gd⟩ = some true) (hv : evs σ parts.toList = some us)
    [hcs : Flat us cs] (hs : Nat.ble (len * sz) 16777216 = true) (hp : Nat.beq (len * sz) 0 = false)
    (hf : Instr.fill (fun i => some (i * sz, sz)) ((Array.range (len * sz)).map (z.cells[· % z.cells.size]!)) us = some (us.flatMap (fun p => p.2.cells.toList)).toArray) (hl : cs.length = len * sz) (hdN : Nat.blt d N = true)
    (h : ∀ b, J N ds w0 W ((d, .slice (some ⟨b, 0, none⟩) len len) :: σ) (.row (.slice (some ⟨b, 0, none⟩) len len) e sz len cs :: H) (wpListIn F n P ops Q rest)) : J N ds w0 W σ H (wpListIn F n P ops Q (⟨some d, .buildSlice t len parts, ty, pos, aft, gd⟩ :: rest)) := l_run hw (r_slit hv hcs.h hs hp hf hl hdN h)
theorem lsl0 [Wide F] {t e sz bs : Nat} {z : Value} [Und P t (.slice e)] [Inf P e sz bs z] (hw : wantd ops σ ⟨some d, .buildSlice t 0 #[], ty, pos, aft, gd⟩ = some true) (hdN : Nat.blt d N = true)
    (h : ∀ b, J N ds w0 W ((d, .slice (some ⟨b, 0, none⟩) 0 0) :: σ) (.row (.slice (some ⟨b, 0, none⟩) 0 0) e sz 0 [] :: H) (wpListIn F n P ops Q rest)) : J N ds w0 W σ H (wpListIn F n P ops Q (⟨some d, .buildSlice t 0 #[], ty, pos, aft, gd⟩ :: rest)) := l_run hw (r_buildSlice0 hdN h)
end

/-- A row is on the list. -/
class OwnAt (A : Option Addr) (m c : Nat) (H : List HE) (e s : Nat) (xs : outParam (List Value)) (k : outParam (HE → List HE)) : Prop where h : ∃ R, Has H (.row (.slice A m c) e s m xs) R ∧ ∀ x, Sub (k x) (x :: R)
instance (priority := 100) (A : Option Addr) (m c e s : Nat) (xs : List Value) (r : List HE) : OwnAt A m c (.row (.slice A m c) e s m xs :: r) e s xs (fun x => x :: r) := ⟨r, .here _ _, fun _ => Sub.refl _⟩
instance (priority := 10) (A : Option Addr) (m c e s : Nat) (y : HE) (xs : List Value) (r : List HE) (k : HE → List HE) [h : OwnAt A m c r e s xs k] : OwnAt A m c (y :: r) e s xs (fun x => y :: k x) :=
  ⟨let ⟨R, h1, h2⟩ := h.h; ⟨y :: R, .there y h1, fun x => Sub.of_perm_cons (h2 x)⟩⟩
class OwnAny (A : Option Addr) (m c : Nat) (H : List HE) : Prop where h : ∃ e s xs R, Has H (.row (.slice A m c) e s m xs) R
instance (priority := 100) (A : Option Addr) (m c e s : Nat) (xs : List Value) (r : List HE) : OwnAny A m c (.row (.slice A m c) e s m xs :: r) := ⟨e, s, xs, r, .here _ _⟩
instance (priority := 10) (A : Option Addr) (m c : Nat) (y : HE) (r : List HE) [h : OwnAny A m c r] : OwnAny A m c (y :: r) :=
  ⟨let ⟨e, s, xs, R, h1⟩ := h.h; ⟨e, s, xs, y :: R, .there y h1⟩⟩
class RoC (w0 : World) (W : Nat → Prop) (s : Nat) (u : Value) (m : outParam Nat) (xs : outParam (List Value)) : Prop where h : Ro w0 W s u m xs
/-- A slice that reads as xs, in memory that nobody writes. -/
class RoA (w0 : World) (W : Nat → Prop) (A : Option Addr) (m c s : Nat) (xs : outParam (List Value)) : Prop where h : Ro w0 W s (.slice A m c) m xs
theorem RoA.at_ {w0 : World} {W : Nat → Prop} {A : Option Addr} {m c s : Nat} {xs : List Value} (h : RoA w0 W A m c s xs) (hm : 0 < m) : ∃ b off, A = some ⟨b, off, none⟩ ∧ RoAt w0 W b off xs := by
  obtain ⟨A', c', h1, -, -, -, h2⟩ := h.h
  injection h1 with e1 e2 e3
  obtain ⟨b, off, h3, h4, h5, h6⟩ := h2 hm
  exact ⟨b, off, by rw [e1, h3], ⟨h4, h5, h6⟩⟩
instance (priority := 100) (w0 : World) (W : Nat → Prop) (b off q : Nat) (xs : List Value) (v : Value) (c : Prop) [h : RoAt w0 W b off xs] [he : Elem xs q v c] : RoGet w0 W b (off + q) v c := ⟨fun hc => ⟨h.h.1, h.h.2.1, h.h.2.2 q v (he.h hc)⟩⟩
instance (priority := 50) (w0 : World) (W : Nat → Prop) (b off : Nat) (xs : List Value) (v : Value) (c : Prop) [h : RoAt w0 W b off xs] [he : Elem xs 0 v c] : RoGet w0 W b off v c := ⟨fun hc => ⟨h.h.1, h.h.2.1, h.h.2.2 0 v (he.h hc)⟩⟩
class SrcC (w0 : World) (W : Nat → Prop) (H : List HE) (e s : Nat) (u : Value) (m : outParam Nat) (xs : outParam (List Value)) : Prop where h : ∀ w, St w0 W H w → Src w0 W H s u m xs
instance (w0 : World) (W : Nat → Prop) (H : List HE) (A : Option Addr) (m c e s : Nat) (xs : List Value) (k : HE → List HE) [h : OwnAt A m c H e s xs k] : SrcC w0 W H e s (.slice A m c) m xs := ⟨fun _ hw => let ⟨_, h1, _⟩ := h.h; Src.row hw h1⟩
instance (w0 : World) (W : Nat → Prop) (H : List HE) (u : Value) (m e s : Nat) (xs : List Value) [h : RoC w0 W s u m xs] : SrcC w0 W H e s u m xs := ⟨fun _ _ => h.h.src _⟩
instance (w0 : World) (W : Nat → Prop) (H : List HE) (A : Option Addr) (m c e s : Nat) (xs : List Value) [h : RoA w0 W A m c s xs] : SrcC w0 W H e s (.slice A m c) m xs := ⟨fun _ _ => h.h.src _⟩
class AppI (xs ys : List Value) (zs : outParam (List Value)) : Prop where h : xs ++ ys = zs
instance (k : IntKind) (a b : List Int) : AppI (ints k a) (ints k b) (ints k (a ++ b)) := ⟨by simp [ints]⟩
instance (k : IntKind) (a : List Int) (v : Int) : AppI (ints k a) [.int k v] (ints k (a ++ [v])) := ⟨by simp [ints]⟩
instance (priority := 200) (b : List Value) : AppI [] b b := ⟨rfl⟩
class LenOf (xs : List Value) (s : Nat) (m : outParam Nat) : Prop where h : ∀ j, xs.length = j * s → j = m
instance (k : IntKind) (a : List Int) : LenOf (ints k a) 1 a.length := ⟨fun j h => by simpa using h.symm⟩
/-- Truth values as cells. -/
def bls (ys : List Bool) : List Value := ys.map .bool
@[simp] theorem bls_len (ys : List Bool) : (bls ys).length = ys.length := by simp [bls]
instance (priority := 100) (ys : List Bool) (q : Nat) : Elem (bls ys) q (.bool (ys.getD q false)) (q < ys.length) := ⟨fun h => by simp [bls, List.getD_eq_getElem?_getD, h]⟩
instance (a b : List Bool) : AppI (bls a) (bls b) (bls (a ++ b)) := ⟨by simp [bls]⟩
instance (a : List Bool) (v : Bool) : AppI (bls a) [.bool v] (bls (a ++ [v])) := ⟨by simp [bls]⟩
instance (a : List Bool) : LenOf (bls a) 1 a.length := ⟨fun j h => by simpa using h.symm⟩
class OneL (xs : List Value) : Prop where h : ∀ u ∈ xs, u.oneCell' = true
instance (k : IntKind) (a : List Int) : OneL (ints k a) := ⟨by simp [ints, Value.oneCell']⟩
instance (a : List Bool) : OneL (bls a) := ⟨fun u hu => by obtain ⟨b, -, rfl⟩ := List.mem_map.1 hu; rfl⟩
instance : OneL [] := ⟨by simp⟩
instance (v : Value) (r : List Value) [h : One v] [k : OneL r] : OneL (v :: r) := ⟨by intro u hu; rcases List.mem_cons.1 hu with rfl | hu; exact h.h; exact k.h u hu⟩
section
variable {F : Fence} {n : Nat} {P : Program} {N : Nat} {ds : List Deferred} {w0 : World} {W : Nat → Prop} {σ : List (Nat × Value)} {H : List HE} {Q : Exit → Act → World → Prop} {k k' : Act → World → Prop}
variable {ops : Array Oper} {rest : List Oper} {d : Nat} {op : Op} {ty : TypeId} {pos : String} {aft : Array Edge} {gd : Option (Nat × Bool)} {vs : List Value} {v : Value} {c : Prop} {H' : List HE}
theorem lap [Wide F] {t e size bytes m m' cc j : Nat} {z u : Value} {x y : Operand} {A : Option Addr} {xs news xs' : List Value} {kk : HE → List HE} [Und P t (.slice e)] [Inf P e size bytes z]
    (hw : wantd ops σ ⟨some d, .call ⟨.builtin .append, #[x, y], #[t, t]⟩, ty, pos, aft, gd⟩ = some true) (hx : ev σ x = some (.slice A m cc)) (hy : ev σ y = some u)
    [ho : OwnAt A m cc H e size xs kk] [hs : SrcC w0 W H e size u j news] [ha : AppI xs news xs'] [hl : LenOf xs' size m'] [h1 : OneL news] (hzs : Nat.beq z.cells.size size = true) (hsz : Nat.blt 0 size = true)
    (hc : m + j ≤ 4611686018427387904 ∧ (m + j) * bytes ≤ 140737488355328) (hdN : Nat.blt d N = true)
    (h : ∀ A' c', J N ds w0 W ((d, .slice A' m' c') :: σ) (kk (.row (.slice A' m' c') e size m' xs')) (wpListIn F n P ops Q rest)) :
    J N ds w0 W σ H (wpListIn F n P ops Q (⟨some d, .call ⟨.builtin .append, #[x, y], #[t, t]⟩, ty, pos, aft, gd⟩ :: rest)) := by
  obtain ⟨R, h2, h3⟩ := ho.h
  intro a w ham hw0
  have e1 : xs.length = m * size := (hw0.has h2).1
  have e2 : news.length = j * size := let ⟨_, _, _, _, _, hh, _⟩ := hs.h w hw0; hh
  have e3 : m + j = m' := hl.h _ (by rw [← ha.h, List.length_append, e1, e2, Nat.add_mul])
  exact l_run hw (r_append hx hy h2 hs.h h1.h hzs hsz (by have := hc.1; simp only [maxLen]; omega) hc.2 hdN (fun A' c' => by rw [e3, ha.h]; exact j_perm (h3 _) (h A' c'))) a w ham hw0
/-- A row that is not empty lies somewhere. -/
theorem j_opn {A : Option Addr} {m cc : Nat} [ho : OwnAny A m cc H] (hpos : 0 < m) (h : ∀ g, A = some ⟨g, 0, none⟩ → J N ds w0 W σ H k) : J N ds w0 W σ H k :=
  let ⟨_, _, _, _, h1⟩ := ho.h
  j_open h1 hpos h
theorem lix {A : Option Addr} {m cc t : Nat} {x y : Operand} (hx : ev σ x = some (.slice A m cc)) [ho : OwnAny A m cc H] (hpos : 0 < m) (h : ∀ g, A = some ⟨g, 0, none⟩ → J N ds w0 W σ H (wpListIn F n P ops Q (⟨some d, .indexAddr t x y, ty, pos, aft, gd⟩ :: rest))) :
    J N ds w0 W σ H (wpListIn F n P ops Q (⟨some d, .indexAddr t x y, ty, pos, aft, gd⟩ :: rest)) := j_opn (cc := cc) hpos h
theorem lixr {A : Option Addr} {m cc t s : Nat} {xs : List Value} {x y : Operand} (hx : ev σ x = some (.slice A m cc)) (ho : RoA w0 W A m cc s xs) (hpos : 0 < m) (h : ∀ b off, A = some ⟨b, off, none⟩ → RoAt w0 W b off xs → J N ds w0 W σ H (wpListIn F n P ops Q (⟨some d, .indexAddr t x y, ty, pos, aft, gd⟩ :: rest))) :
    J N ds w0 W σ H (wpListIn F n P ops Q (⟨some d, .indexAddr t x y, ty, pos, aft, gd⟩ :: rest)) := let ⟨b, off, h1, h2⟩ := ho.at_ hpos; h b off h1 h2
theorem Split.all (x : HE) : ∀ (S : List HE), Split (x :: S) S [x]
  | [] => .nil _
  | y :: r => .cons (.there x (.here y r)) (Split.all x r)
theorem Sub.swap1 (x : HE) (S : List HE) : Sub (x :: S) (S ++ [x]) := by
  have h : ∀ S : List HE, Has (S ++ [x]) x S := by
    intro S
    induction S with
    | nil => exact .here _ _
    | cons y r ih => exact .there y ih
  exact .cons (h S) (Sub.refl S)
/-- A call of a function. -/
theorem lfn [Wide F] [WF F] {dst : Nat} {f : FuncId} {args : Array Operand} {ts : Array TypeId} {us : List Value} [Cl P f] {S R : List HE} {Rl : Value → List HE → Prop}
    (hw : wantd ops σ ⟨some dst, .call ⟨.value (.func f), args, ts⟩, ty, pos, aft, gd⟩ = some true) (hv : vals σ args.toList = some us) (hs : Split H S R) (hdN : Nat.blt dst N = true)
    (hc : ∀ w, St w0 W H w → Own S w → Does P f us S w Rl) (h : ∀ v S', Rl v S' → J N ds w0 W ((dst, v) :: σ) (S' ++ R) (wpListIn F n P ops Q rest)) :
    J N ds w0 W σ H (wpListIn F n P ops Q (⟨some dst, .call ⟨.value (.func f), args, ts⟩, ty, pos, aft, gd⟩ :: rest)) := l_run hw (r_fn hv hs hdN hc h)
/-- A call that yields just this value and gives back what it was given. -/
theorem lfk [Wide F] [WF F] {dst : Nat} {f : FuncId} {args : Array Operand} {ts : Array TypeId} {us : List Value} [Cl P f] {v : Value} {S R : List HE}
    (hw : wantd ops σ ⟨some dst, .call ⟨.value (.func f), args, ts⟩, ty, pos, aft, gd⟩ = some true) (hv : vals σ args.toList = some us) (hs : Split H S R) (hb : Sub H (S ++ R)) (hdN : Nat.blt dst N = true)
    (hc : ∀ w, St w0 W H w → Own S w → Does P f us S w fun u S' => u = v ∧ S' = S) (h : J N ds w0 W ((dst, v) :: σ) H (wpListIn F n P ops Q rest)) :
    J N ds w0 W σ H (wpListIn F n P ops Q (⟨some dst, .call ⟨.value (.func f), args, ts⟩, ty, pos, aft, gd⟩ :: rest)) := l_run hw (r_fnk S hv hs hb hdN hc h)
/-- A call that yields just this value and is given nothing. -/
theorem lfv [Wide F] [WF F] {dst : Nat} {f : FuncId} {args : Array Operand} {ts : Array TypeId} {us : List Value} [Cl P f] {v : Value}
    (hw : wantd ops σ ⟨some dst, .call ⟨.value (.func f), args, ts⟩, ty, pos, aft, gd⟩ = some true) (hv : vals σ args.toList = some us) (hdN : Nat.blt dst N = true)
    (hc : ∀ w, St w0 W H w → Does P f us [] w fun u S' => u = v ∧ S' = []) (h : J N ds w0 W ((dst, v) :: σ) H (wpListIn F n P ops Q rest)) :
    J N ds w0 W σ H (wpListIn F n P ops Q (⟨some dst, .call ⟨.value (.func f), args, ts⟩, ty, pos, aft, gd⟩ :: rest)) := l_run hw (r_fnv hv hdN hc h)
/-- The same in the midst of a region that draws. -/
theorem hfk [Wide F] [WF F] {dst : Nat} {f : FuncId} {args : Array Operand} {ts : Array TypeId} {us : List Value} [Cl P f] {v : Value} {S R : List HE} {T : List (Nat × Value) → Prop}
    (hw : wantd ops σ ⟨some dst, .call ⟨.value (.func f), args, ts⟩, ty, pos, aft, gd⟩ = some true) (hv : vals σ args.toList = some us) (hs : Split H S R) (hb : Sub H (S ++ R)) (hdN : Nat.blt dst N = true)
    (hc : ∀ w, St w0 W H w → Own S w → Does P f us S w fun u S' => u = v ∧ S' = S) (h : HdJ F n P N ds w0 W H ops rest ((dst, v) :: σ) T) :
    HdJ F n P N ds w0 W H ops (⟨some dst, .call ⟨.value (.func f), args, ts⟩, ty, pos, aft, gd⟩ :: rest) σ T := h_run rfl hdN hw (fun _ _ hk => r_fnk S hv hs hb hdN hc hk) h
theorem hfv [Wide F] [WF F] {dst : Nat} {f : FuncId} {args : Array Operand} {ts : Array TypeId} {us : List Value} [Cl P f] {v : Value} {T : List (Nat × Value) → Prop}
    (hw : wantd ops σ ⟨some dst, .call ⟨.value (.func f), args, ts⟩, ty, pos, aft, gd⟩ = some true) (hv : vals σ args.toList = some us) (hdN : Nat.blt dst N = true)
    (hc : ∀ w, St w0 W H w → Does P f us [] w fun u S' => u = v ∧ S' = []) (h : HdJ F n P N ds w0 W H ops rest ((dst, v) :: σ) T) :
    HdJ F n P N ds w0 W H ops (⟨some dst, .call ⟨.value (.func f), args, ts⟩, ty, pos, aft, gd⟩ :: rest) σ T := h_run rfl hdN hw (fun _ _ hk => r_fnv hv hdN hc hk) h
class AppC (S R : List HE) (O : outParam (List HE)) : Prop where h : S ++ R = O
instance (R : List HE) : AppC [] R R := ⟨rfl⟩
instance (x : HE) (S R O : List HE) [h : AppC S R O] : AppC (x :: S) R (x :: O) := ⟨by rw [List.cons_append, h.h]⟩
theorem j_app {S R O : List HE} [ho : AppC S R O] (h : J N ds w0 W σ O k) : J N ds w0 W σ (S ++ R) k := by rw [ho.h]; exact h
end
end Go.Proofs.Ytokoopdkofgabaa
