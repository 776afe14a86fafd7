/- Words for memory: a stretch of a block that holds given cells, and what is kept when it is written. -/
import Derived.Test.YtokoopdkofgabaaRows
import Derived.WalkKit
import Derived.WalkSpells
import Derived.Lib.Hide
import Derived.Deep.Draws
import Derived.Deep.QuietTactic
namespace Go.Proofs.Ytokoopdkofgabaa
open Go.RowKit

/-- cs, with xs in the places from o on. -/
def splice (cs : Array Value) (o : Nat) (xs : List Value) : Array Value :=
  (cs.toList.take o ++ xs ++ cs.toList.drop (o + xs.length)).toArray

theorem splice_size {cs : Array Value} {o : Nat} {xs : List Value} (h : o + xs.length ≤ cs.size) : (splice cs o xs).size = cs.size := by
  simp [splice]; omega

theorem splice_get {cs : Array Value} {o : Nat} {xs : List Value} (h : o + xs.length ≤ cs.size) {k : Nat} (hk : k < xs.length) : (splice cs o xs)[o + k]? = xs[k]? := by
  have ho : (cs.toList.take o).length = o := by simp; omega
  simp only [splice, List.getElem?_toArray, List.append_assoc]
  rw [List.getElem?_append_right (by omega), ho, Nat.add_sub_cancel_left, List.getElem?_append_left hk]

theorem splice_out {cs : Array Value} {o : Nat} {xs : List Value} (h : o + xs.length ≤ cs.size) {j : Nat} (hj : j < o ∨ o + xs.length ≤ j) : (splice cs o xs)[j]? = cs[j]? := by
  have ho : (cs.toList.take o).length = o := by simp; omega
  simp only [splice, List.getElem?_toArray, List.append_assoc]
  rcases hj with hj | hj
  · rw [List.getElem?_append_left (by omega), List.getElem?_take_of_lt hj, Array.getElem?_toList]
  · rw [List.getElem?_append_right (by omega), ho, List.getElem?_append_right (by omega), List.getElem?_drop, Array.getElem?_toList]
    congr 1; omega

theorem splice_set {cs : Array Value} {o : Nat} {xs : List Value} (h : o + xs.length ≤ cs.size) {k : Nat} (hk : k < xs.length) (u : Value) :
    (splice cs o xs).setIfInBounds (o + k) u = splice cs o (xs.set k u) := by
  apply Array.ext_getElem?
  intro j
  have hl : (xs.set k u).length = xs.length := List.length_set ..
  rw [Array.getElem?_setIfInBounds]
  by_cases hj : o + k = j
  · subst hj
    rw [if_pos rfl, if_pos (by rw [splice_size h]; omega), splice_get (by omega) (by omega), List.getElem?_set_self (by omega)]
  · rw [if_neg hj]
    by_cases hin : o ≤ j ∧ j < o + xs.length
    · obtain ⟨i, rfl⟩ : ∃ i, j = o + i := ⟨j - o, by omega⟩
      rw [splice_get h (by omega), splice_get (by omega) (by omega), List.getElem?_set_ne (by omega)]
    · rw [splice_out h (by omega), splice_out (by omega) (by omega)]

theorem splice_same {cs : Array Value} {o : Nat} {xs : List Value} (h : o + xs.length ≤ cs.size) (ys : List Value) (hl : ys.length = xs.length) :
    splice (splice cs o xs) o ys = splice cs o ys := by
  apply Array.ext_getElem?
  intro j
  have hs := splice_size h
  by_cases hin : o ≤ j ∧ j < o + ys.length
  · obtain ⟨i, rfl⟩ : ∃ i, j = o + i := ⟨j - o, by omega⟩
    rw [splice_get (by omega) (by omega), splice_get (by omega) (by omega)]
  · rw [splice_out (by omega) (by omega), splice_out (by omega) (by omega), splice_out (by omega) (by omega)]

/-- Block g holds xs from place o on; else it is cs. -/
def Hold (w : World) (g : Nat) (t : TypeId) (cs : Array Value) (o : Nat) (xs : List Value) : Prop :=
  w.heap[g]? = some (.cells (splice cs o xs) t (0, 0)) ∧ o + xs.length ≤ cs.size

section
variable {w w' : World} {g : Nat} {t : TypeId} {cs : Array Value} {o : Nat} {xs : List Value}
theorem Hold.lt (h : Hold w g t cs o xs) : g < w.heap.size := by
  rcases Nat.lt_or_ge g w.heap.size with hlt | hge
  · exact hlt
  · have := h.1; rw [Array.getElem?_eq_none hge] at this; cases this
theorem Hold.cell (h : Hold w g t cs o xs) {k : Nat} (hk : k < xs.length) : w.cell? ⟨g, o + k, none⟩ = xs[k]? :=
  (cell_of_row w g (o + k) _ t (0, 0) h.1).trans (splice_get h.2 hk)
theorem Hold.cell_is (h : Hold w g t cs o xs) {k : Nat} {v : Value} (hk : xs[k]? = some v) : w.cell? ⟨g, o + k, none⟩ = some v := by
  have : k < xs.length := (List.getElem?_eq_some_iff.1 hk).1
  rw [h.cell this, hk]
theorem Hold.frozen (h : Hold w g t cs o xs) (i : Nat) : w.frozen? ⟨g, i, none⟩ = false := by
  have := h.1
  simp [World.frozen?, this]
theorem Hold.drew (h : Hold w g t cs o xs) : Hold w.drew g t cs o xs := h
theorem Hold.drewN (h : Hold w g t cs o xs) (n : Nat) : Hold (w.drewN n) g t cs o xs := h
theorem Hold.alloc (h : Hold w g t cs o xs) (ob : Obj) : Hold (w.alloc ob) g t cs o xs := ⟨(Below.heap_alloc w ob g h.lt).trans h.1, h.2⟩
theorem Hold.set_ (h : Hold w g t cs o xs) {k : Nat} (hk : k < xs.length) (u : Value) : Hold (w.setCell ⟨g, o + k, none⟩ u) g t cs o (xs.set k u) := by
  refine ⟨?_, by rw [List.length_set]; exact h.2⟩
  have := h.1
  simp [World.setCell, Array.getElem?_modify, this]
  exact splice_set h.2 hk u
theorem Hold.far (h : Hold w g t cs o xs) {p : Addr} (hp : g ≠ p.block) (u : Value) : Hold (w.setCell p u) g t cs o xs := ⟨(Below.heap_setCell w p u g hp).trans h.1, h.2⟩
theorem Hold.below {B : Nat} (h : Hold w g t cs o xs) (hb : Below B w w') (hg : g < B) : Hold w' g t cs o xs := ⟨(hb.block g hg).trans h.1, h.2⟩
theorem Hold.grown {row : Option Nat} (h : Hold w g t cs o xs) (hb : w.grownBy w' row) (hg : some g ≠ row) : Hold w' g t cs o xs := ⟨(hb.block g h.lt hg).trans h.1, h.2⟩
theorem Hold.new (w : World) (t : TypeId) (xs : List Value) : Hold (w.alloc (.cells xs.toArray t)) w.heap.size t xs.toArray 0 xs :=
  ⟨by rw [heap_alloc_new]; simp [splice], by simp⟩
end

theorem only_drewN {a w : World} {row : Option Nat} (h : a.grownBy w row) (n : Nat) : a.grownBy (w.drewN n) row := ⟨h.os, h.tape, h.output, h.size, h.block⟩
theorem only_drew {a w : World} {row : Option Nat} (h : a.grownBy w row) : a.grownBy w.drew row := ⟨h.os, h.tape, h.output, h.size, h.block⟩
theorem only_alloc {a w : World} {row : Option Nat} (h : a.grownBy w row) (o : Obj) : a.grownBy (w.alloc o) row :=
  ⟨h.os, h.tape, h.output, Nat.le_trans h.size (by simp), fun i hi hne => (Below.heap_alloc w o i (Nat.lt_of_lt_of_le hi h.size)).trans (h.block i hi hne)⟩
theorem only_setCell {a w : World} {g : Nat} (h : a.grownBy w (some g)) {p : Addr} (hp : p.block = g ∨ a.heap.size ≤ p.block) (u : Value) : a.grownBy (w.setCell p u) (some g) :=
  ⟨h.os, h.tape, h.output, by simpa [World.setCell] using h.size, fun i hi hne => (Below.heap_setCell w p u i (by
    rintro rfl
    rcases hp with hp | hp
    · exact hne (by rw [hp])
    · omega)).trans (h.block i hi hne)⟩
theorem only_trans {a b c : World} {row : Option Nat} (h : a.grownBy b row) (k : b.grownBy c row) : a.grownBy c row :=
  ⟨k.os.trans h.os, k.tape.trans h.tape, k.output.trans h.output, Nat.le_trans h.size k.size, fun i hi hne => (k.block i (Nat.lt_of_lt_of_le hi h.size) hne).trans (h.block i hi hne)⟩

/-- From w0 to w block g alone was written: it holds xs from place o on, else it is cs. -/
def Upd (w0 : World) (g : Nat) (t : TypeId) (cs : Array Value) (o : Nat) (xs : List Value) (w : World) : Prop :=
  Hold w g t cs o xs ∧ w0.grownBy w (some g)

section
variable {w0 w w' : World} {g : Nat} {t : TypeId} {cs : Array Value} {o : Nat} {xs : List Value}
theorem Upd.start (h : Hold w g t cs o xs) : Upd w g t cs o xs w := ⟨h, World.grownBy.refl w _⟩
theorem Upd.drew (h : Upd w0 g t cs o xs w) : Upd w0 g t cs o xs w.drew := ⟨h.1.drew, only_drew h.2⟩
theorem Upd.drewN (h : Upd w0 g t cs o xs w) (n : Nat) : Upd w0 g t cs o xs (w.drewN n) := ⟨h.1.drewN n, only_drewN h.2 n⟩
theorem Upd.alloc (h : Upd w0 g t cs o xs w) (ob : Obj) : Upd w0 g t cs o xs (w.alloc ob) := ⟨h.1.alloc ob, only_alloc h.2 ob⟩
theorem Upd.set_ (h : Upd w0 g t cs o xs w) (k : Nat) (u : Value) (hk : k < xs.length) : Upd w0 g t cs o (xs.set k u) (w.setCell ⟨g, o + k, none⟩ u) :=
  ⟨h.1.set_ hk u, only_setCell (p := ⟨g, o + k, none⟩) h.2 (.inl rfl) u⟩
theorem Upd.trans {ys : List Value} (h : Upd w0 g t cs o xs w) (k : Upd w g t cs o ys w') : Upd w0 g t cs o ys w' := ⟨k.1, only_trans h.2 k.2⟩
end

theorem bcell {W w1 : World} (hb : Below W.heap.size W w1) : (∀ b o, b < W.heap.size → w1.cell? ⟨b, o, none⟩ = W.cell? ⟨b, o, none⟩) ∧ (∀ b o, b < W.heap.size → w1.frozen? ⟨b, o, none⟩ = W.frozen? ⟨b, o, none⟩) :=
  ⟨fun b o h => hb.cell (p := ⟨b, o, none⟩) h, fun b o h => hb.frozen (p := ⟨b, o, none⟩) h⟩

theorem quiet_add_same {P : Program} {f : FuncId} {args : Array Value} {w : World} {a n : Nat} {v : Value}
    (h : Calls P f args (w.drewN (a + n)) fun e w' => e = .returned v ∧ w' = w.drewN (a + n)) :
    Calls P f args (w.drewN (a + n)) fun e w'' => e = .returned v ∧ ∃ m, w'' = w.drewN (a + m) :=
  h.mono fun _ _ ⟨he, hm⟩ => ⟨he, n, hm⟩
theorem quiet_add_left {P : Program} {f : FuncId} {args : Array Value} {w : World} {a n : Nat} {v : Value}
    (h : Calls P f args (w.drewN (a + n)) fun e w' => e = .returned v ∧ w.drewN (a + n) = w') :
    Calls P f args (w.drewN (a + n)) fun e w'' => e = .returned v ∧ ∃ m, w'' = w.drewN (a + m) :=
  h.mono fun _ _ ⟨he, hm⟩ => ⟨he, n, hm.symm⟩
theorem quiet_left {P : Program} {f : FuncId} {args : Array Value} {w : World} {n : Nat} {v : Value}
    (h : Calls P f args (w.drewN n) fun e w' => e = .returned v ∧ w.drewN n = w') : Calls P f args (w.drewN n) fun e w'' => e = .returned v ∧ ∃ m, w'' = w.drewN m :=
  h.mono fun _ _ ⟨he, hm⟩ => ⟨he, n, hm.symm⟩

end Go.Proofs.Ytokoopdkofgabaa
