/- The engine: rows of structs. -/
import Derived.Test.YtokoopdkofgabaaEngZ
namespace Go.Proofs.Ytokoopdkofgabaa
open Go.RowKit

/-- Rows of a table, one behind the other. -/
def flat {α : Type} (e : α → List Value) (l : List α) : List Value := (l.map e).flatten
/-- Each row has so many cells. -/
class RowE {α : Type} (e : α → List Value) (s : outParam Nat) : Prop where h : (∀ a, (e a).length = s) ∧ 0 < s
/-- A row, from its cells. -/
class UnE {α : Type} (e : α → List Value) (vs : List Value) (x : outParam α) : Prop where h : e x = vs
section
variable {α : Type} {e : α → List Value} {s : Nat}
theorem flat_app (l r : List α) : flat e (l ++ r) = flat e l ++ flat e r := by simp [flat]
theorem flat_one (x : α) : flat e [x] = e x := by simp [flat]
theorem flat_len [h : RowE e s] : ∀ l : List α, (flat e l).length = l.length * s
  | [] => by simp [flat]
  | x :: r => by
    have e1 : flat e (x :: r) = e x ++ flat e r := by simp [flat]
    rw [e1, List.length_append, flat_len r, h.h.1 x, List.length_cons, Nat.add_mul]; omega
theorem flat_at [Inhabited α] [h : RowE e s] : ∀ (l : List α) (i k : Nat), i < l.length → k < s → (flat e l)[i * s + k]? = (e (l.getD i default))[k]?
  | [], i, k, hi, _ => by simp at hi
  | x :: r, i, k, hi, hk => by
    have e1 : flat e (x :: r) = e x ++ flat e r := by simp [flat]
    rw [e1]
    cases i with
    | zero => rw [List.getElem?_append_left (by rw [h.h.1]; omega)]; simp
    | succ i =>
      rw [List.getElem?_append_right (by rw [h.h.1, Nat.add_mul]; omega), h.h.1, show (i + 1) * s + k - s = i * s + k by rw [Nat.add_mul]; omega, flat_at r i k (by simpa using hi) hk]
      simp
/-- A whole row of a table. -/
class ECut (xs : List Value) (q s : Nat) (o : outParam (List Value)) (c : outParam Prop) : Prop where h : c → o.length = s ∧ ∀ j u, o[j]? = some u → xs[q + j]? = some u
instance (priority := 100) [Inhabited α] (l : List α) (i : Nat) [h : RowE e s] : ECut (flat e l) (i * s) s (e (l.getD i default)) (i < l.length) := ⟨fun hi => ⟨h.h.1 _, fun j u hu => by
  have hk : j < s := by rw [← h.h.1 (l.getD i default)]; exact (List.getElem?_eq_some_iff.1 hu).1
  rw [flat_at l i j hi hk]; exact hu⟩⟩
instance (l : List α) (vs : List Value) (x : α) [h : UnE e vs x] : AppI (flat e l) vs (flat e (l ++ [x])) := ⟨by rw [flat_app, flat_one, h.h]⟩
instance (l : List α) [h : RowE e s] : LenOf (flat e l) s l.length := ⟨fun j hj => by rw [flat_len] at hj; exact (Nat.eq_of_mul_eq_mul_right h.h.2 hj).symm⟩
end
theorem Range.row {w0 : World} {W : Nat → Prop} {H R : List HE} {b o n c e s : Nat} {xs cs : List Value} (hm : Has H (.row (.slice (some ⟨b, 0, none⟩) n c) e s n xs) R) (h : ∀ j u, cs[j]? = some u → xs[o + j]? = some u) : Range w0 W H b o cs := .of_cells fun j u hu => .row hm (h j u hu)
section
variable {P : Program} {w0 : World} {W : Nat → Prop} {H : List HE}
instance (priority := 60) (t b q sz bs m c e s : Nat) (z : Value) (dd : TypeDesc) (x : Operand) (o xs : List Value) (p : Prop) (k : HE → List HE) [Und P t dd] [hd : YesAgg dd] [Inf P t sz bs z] [h : AtRow b H m c e s xs k] [hr : ECut xs q sz o p] : MS P w0 W H (.load t x) [.pointer (some ⟨b, q, none⟩)] (.agg o.toArray) p :=
  ⟨fun hc _ _ _ _ _ _ _ _ _ _ _ _ _ h1 h2 h3 => let ⟨_, h4, _⟩ := h.h; r_loadAgg (t := t) (opnds1 rfl h1) hd.h (Range.row h4 (hr.h hc).2) (hr.h hc).1 h2 h3⟩
end
/-- A place on a map. -/
abbrev spotE : Int × Int → List Value := fun p => [.int .i64 p.1, .int .i64 p.2]
instance : RowE spotE 2 := ⟨fun _ => rfl, by decide⟩
instance (a b : Int) : UnE spotE [.int .i64 a, .int .i64 b] (a, b) := ⟨rfl⟩
end Go.Proofs.Ytokoopdkofgabaa
