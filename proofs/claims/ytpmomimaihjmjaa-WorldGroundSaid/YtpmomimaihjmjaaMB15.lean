import Derived.Test.YtpmomimaihjmjaaRows
import Derived.WalkKit
import Derived.WalkSpells
import Derived.Lib.Hide
import Derived.Deep.Draws
import Derived.Deep.QuietTactic
import Derived.WalkLawsBesides
import Derived.BigQuiet
import Derived.Test.YtpmomimaihjmjaaMB14
set_option linter.unusedVariables false
set_option linter.unusedSimpArgs false
/- Words for memory: a stretch of a block that holds given cells, and what is kept when it is written. -/
namespace Go.Proofs.Ytpmomimaihjmjaa
open Go.RowKit

/-- cs, with xs in the places from o on. -/
def splice (cs : Array Value) (o : Nat) (xs : List Value) : Array Value :=
  (cs.toList.take o ++ xs ++ cs.toList.drop (o + xs.length)).toArray

theorem splice_size {cs : Array Value} {o : Nat} {xs : List Value} (h : o + xs.length ≤ cs.size) : (splice cs o xs).size = cs.size := by
  simp [splice]; omega

theorem splice_get {cs : Array Value} {o : Nat} {xs : List Value} (h : o + xs.length ≤ cs.size) {k : Nat} (hk : k < xs.length) : (splice cs o xs)[o + k]? = xs[k]? := by
  have ho : (cs.toList.take o).length = o := by simp; omega
  simp only [splice, List.getElem?_toArray, List.append_assoc]
  rw [List.getElem?_append_right (by omega), ho, Nat.add_sub_cancel_left, List.getElem?_append_left hk]

theorem splice_out {cs : Array Value} {o : Nat} {xs : List Value} (h : o + xs.length ≤ cs.size) {j : Nat} (hj : j < o ∨ o + xs.length ≤ j) : (splice cs o xs)[j]? = cs[j]? := by
  have ho : (cs.toList.take o).length = o := by simp; omega
  simp only [splice, List.getElem?_toArray, List.append_assoc]
  rcases hj with hj | hj
  · rw [List.getElem?_append_left (by omega), List.getElem?_take_of_lt hj, Array.getElem?_toList]
  · rw [List.getElem?_append_right (by omega), ho, List.getElem?_append_right (by omega), List.getElem?_drop, Array.getElem?_toList]
    congr 1; omega

theorem splice_set {cs : Array Value} {o : Nat} {xs : List Value} (h : o + xs.length ≤ cs.size) {k : Nat} (hk : k < xs.length) (u : Value) :
    (splice cs o xs).setIfInBounds (o + k) u = splice cs o (xs.set k u) := by
  apply Array.ext_getElem?
  intro j
  have hl : (xs.set k u).length = xs.length := List.length_set ..
  rw [Array.getElem?_setIfInBounds]
  by_cases hj : o + k = j
  · subst hj
    rw [if_pos rfl, if_pos (by rw [splice_size h]; omega), splice_get (by omega) (by omega), List.getElem?_set_self (by omega)]
  · rw [if_neg hj]
    by_cases hin : o ≤ j ∧ j < o + xs.length
    · obtain ⟨i, rfl⟩ : ∃ i, j = o + i := ⟨j - o, by omega⟩
      rw [splice_get h (by omega), splice_get (by omega) (by omega), List.getElem?_set_ne (by omega)]
    · rw [splice_out h (by omega), splice_out (by omega) (by omega)]

theorem splice_same {cs : Array Value} {o : Nat} {xs : List Value} (h : o + xs.length ≤ cs.size) (ys : List Value) (hl : ys.length = xs.length) :
    splice (splice cs o xs) o ys = splice cs o ys := by
  apply Array.ext_getElem?
  intro j
  have hs := splice_size h
  by_cases hin : o ≤ j ∧ j < o + ys.length
  · obtain ⟨i, rfl⟩ : ∃ i, j = o + i := ⟨j - o, by omega⟩
    rw [splice_get (by omega) (by omega), splice_get (by omega) (by omega)]
  · rw [splice_out (by omega) (by omega), splice_out (by omega) (by omega), splice_out (by omega) (by omega)]

/-- Block g holds xs from place o on; else it is cs. -/
def Hold (w : World) (g : Nat) (t : TypeId) (cs : Array Value) (o : Nat) (xs : List Value) : Prop :=
  w.heap[g]? = some (.cells (splice cs o xs) t (0, 0)) ∧ o + xs.length ≤ cs.size

section
variable {w w' : World} {g : Nat} {t : TypeId} {cs : Array Value} {o : Nat} {xs : List Value}
theorem Hold.lt (h : Hold w g t cs o xs) : g < w.heap.size := by
  rcases Nat.lt_or_ge g w.heap.size with hlt | hge
  · exact hlt
  · have := h.1; rw [Array.getElem?_eq_none hge] at this; cases this
theorem Hold.cell (h : Hold w g t cs o xs) {k : Nat} (hk : k < xs.length) : w.cell? ⟨g, o + k, none⟩ = xs[k]? :=
  (cell_of_row w g (o + k) _ t (0, 0) h.1).trans (splice_get h.2 hk)
theorem Hold.cell_is (h : Hold w g t cs o xs) {k : Nat} {v : Value} (hk : xs[k]? = some v) : w.cell? ⟨g, o + k, none⟩ = some v := by
  have : k < xs.length := (List.getElem?_eq_some_iff.1 hk).1
  rw [h.cell this, hk]
theorem Hold.frozen (h : Hold w g t cs o xs) (i : Nat) : w.frozen? ⟨g, i, none⟩ = false := by
  have := h.1
  simp [World.frozen?, this]
theorem Hold.drew (h : Hold w g t cs o xs) : Hold w.drew g t cs o xs := h
theorem Hold.drewN (h : Hold w g t cs o xs) (n : Nat) : Hold (w.drewN n) g t cs o xs := h
theorem Hold.alloc (h : Hold w g t cs o xs) (ob : Obj) : Hold (w.alloc ob) g t cs o xs := ⟨(Below.heap_alloc w ob g h.lt).trans h.1, h.2⟩
theorem Hold.set_ (h : Hold w g t cs o xs) {k : Nat} (hk : k < xs.length) (u : Value) : Hold (w.setCell ⟨g, o + k, none⟩ u) g t cs o (xs.set k u) := by
  refine ⟨?_, by rw [List.length_set]; exact h.2⟩
  have := h.1
  simp [World.setCell, Array.getElem?_modify, this]
  exact splice_set h.2 hk u
theorem Hold.far (h : Hold w g t cs o xs) {p : Addr} (hp : g ≠ p.block) (u : Value) : Hold (w.setCell p u) g t cs o xs := ⟨(Below.heap_setCell w p u g hp).trans h.1, h.2⟩
theorem Hold.below {B : Nat} (h : Hold w g t cs o xs) (hb : Below B w w') (hg : g < B) : Hold w' g t cs o xs := ⟨(hb.block g hg).trans h.1, h.2⟩
theorem Hold.grown {row : Option Nat} (h : Hold w g t cs o xs) (hb : w.grownBy w' row) (hg : some g ≠ row) : Hold w' g t cs o xs := ⟨(hb.block g h.lt hg).trans h.1, h.2⟩
theorem Hold.new (w : World) (t : TypeId) (xs : List Value) : Hold (w.alloc (.cells xs.toArray t)) w.heap.size t xs.toArray 0 xs :=
  ⟨by rw [heap_alloc_new]; simp [splice], by simp⟩
end

theorem only_drewN {a w : World} {row : Option Nat} (h : a.grownBy w row) (n : Nat) : a.grownBy (w.drewN n) row := ⟨h.os, h.tape, h.output, h.size, h.block⟩
theorem only_drew {a w : World} {row : Option Nat} (h : a.grownBy w row) : a.grownBy w.drew row := ⟨h.os, h.tape, h.output, h.size, h.block⟩
theorem only_alloc {a w : World} {row : Option Nat} (h : a.grownBy w row) (o : Obj) : a.grownBy (w.alloc o) row :=
  ⟨h.os, h.tape, h.output, Nat.le_trans h.size (by simp), fun i hi hne => (Below.heap_alloc w o i (Nat.lt_of_lt_of_le hi h.size)).trans (h.block i hi hne)⟩
theorem only_setCell {a w : World} {g : Nat} (h : a.grownBy w (some g)) {p : Addr} (hp : p.block = g ∨ a.heap.size ≤ p.block) (u : Value) : a.grownBy (w.setCell p u) (some g) :=
  ⟨h.os, h.tape, h.output, by simpa [World.setCell] using h.size, fun i hi hne => (Below.heap_setCell w p u i (by
    rintro rfl
    rcases hp with hp | hp
    · exact hne (by rw [hp])
    · omega)).trans (h.block i hi hne)⟩
theorem only_trans {a b c : World} {row : Option Nat} (h : a.grownBy b row) (k : b.grownBy c row) : a.grownBy c row :=
  ⟨k.os.trans h.os, k.tape.trans h.tape, k.output.trans h.output, Nat.le_trans h.size k.size, fun i hi hne => (k.block i (Nat.lt_of_lt_of_le hi h.size) hne).trans (h.block i hi hne)⟩

/-- From w0 to w block g alone was written: it holds xs from place o on, else it is cs. -/
def Upd (w0 : World) (g : Nat) (t : TypeId) (cs : Array Value) (o : Nat) (xs : List Value) (w : World) : Prop :=
  Hold w g t cs o xs ∧ w0.grownBy w (some g)

section
variable {w0 w w' : World} {g : Nat} {t : TypeId} {cs : Array Value} {o : Nat} {xs : List Value}
theorem Upd.start (h : Hold w g t cs o xs) : Upd w g t cs o xs w := ⟨h, World.grownBy.refl w _⟩
theorem Upd.drew (h : Upd w0 g t cs o xs w) : Upd w0 g t cs o xs w.drew := ⟨h.1.drew, only_drew h.2⟩
theorem Upd.drewN (h : Upd w0 g t cs o xs w) (n : Nat) : Upd w0 g t cs o xs (w.drewN n) := ⟨h.1.drewN n, only_drewN h.2 n⟩
theorem Upd.alloc (h : Upd w0 g t cs o xs w) (ob : Obj) : Upd w0 g t cs o xs (w.alloc ob) := ⟨h.1.alloc ob, only_alloc h.2 ob⟩
theorem Upd.set_ (h : Upd w0 g t cs o xs w) (k : Nat) (u : Value) (hk : k < xs.length) : Upd w0 g t cs o (xs.set k u) (w.setCell ⟨g, o + k, none⟩ u) :=
  ⟨h.1.set_ hk u, only_setCell (p := ⟨g, o + k, none⟩) h.2 (.inl rfl) u⟩
theorem Upd.trans {ys : List Value} (h : Upd w0 g t cs o xs w) (k : Upd w g t cs o ys w') : Upd w0 g t cs o ys w' := ⟨k.1, only_trans h.2 k.2⟩
end

theorem bcell {W w1 : World} (hb : Below W.heap.size W w1) : (∀ b o, b < W.heap.size → w1.cell? ⟨b, o, none⟩ = W.cell? ⟨b, o, none⟩) ∧ (∀ b o, b < W.heap.size → w1.frozen? ⟨b, o, none⟩ = W.frozen? ⟨b, o, none⟩) :=
  ⟨fun b o h => hb.cell (p := ⟨b, o, none⟩) h, fun b o h => hb.frozen (p := ⟨b, o, none⟩) h⟩

theorem quiet_add_same {P : Program} {f : FuncId} {args : Array Value} {w : World} {a n : Nat} {v : Value}
    (h : Calls P f args (w.drewN (a + n)) fun e w' => e = .returned v ∧ w' = w.drewN (a + n)) :
    Calls P f args (w.drewN (a + n)) fun e w'' => e = .returned v ∧ ∃ m, w'' = w.drewN (a + m) :=
  h.mono fun _ _ ⟨he, hm⟩ => ⟨he, n, hm⟩
theorem quiet_add_left {P : Program} {f : FuncId} {args : Array Value} {w : World} {a n : Nat} {v : Value}
    (h : Calls P f args (w.drewN (a + n)) fun e w' => e = .returned v ∧ w.drewN (a + n) = w') :
    Calls P f args (w.drewN (a + n)) fun e w'' => e = .returned v ∧ ∃ m, w'' = w.drewN (a + m) :=
  h.mono fun _ _ ⟨he, hm⟩ => ⟨he, n, hm.symm⟩
theorem quiet_left {P : Program} {f : FuncId} {args : Array Value} {w : World} {n : Nat} {v : Value}
    (h : Calls P f args (w.drewN n) fun e w' => e = .returned v ∧ w.drewN n = w') : Calls P f args (w.drewN n) fun e w'' => e = .returned v ∧ ∃ m, w'' = w.drewN m :=
  h.mono fun _ _ ⟨he, hm⟩ => ⟨he, n, hm.symm⟩

end Go.Proofs.Ytpmomimaihjmjaa
/- Walks of package clearance: each function computes what its Lean twin says. -/
namespace Go.Proofs.Ytpmomimaihjmjaa
open Go.RowKit

def newerB (a b : Int) : Bool := (a != b) && decide ((a - b) % 65536 < 32768)

set_option maxHeartbeats 400000 in
theorem newer_any (a b : Int) (w : World) :
    Calls Try.prog 109 #[.int .u16 a, .int .u16 b] w fun e w' => e = .returned (.bool (newerB a b)) ∧ w = w' := by
  go_enter Try.func109, Try.ntmps109
  go_wp2
  · go_ret
    exact ⟨by simp_all [newerB, IntKind.wrap_u16], rfl⟩
  · go_ret
    exact ⟨by simp_all [newerB, IntKind.wrap_u16], rfl⟩

/-- A line: rules, the last frame, the last height, the last ground, how many were thrown away, and the counts. -/
structure Ln where
  age : Int
  jump : Int
  throw : Int
  most : Int
  any : Bool
  seq : Int
  time : Int
  high : Int
  since : Int
  has : Bool
  last : Int
  based : Bool
  threw : Int
  c0 : Int
  c1 : Int
  c2 : Int
  c3 : Int
  c4 : Int
  c5 : Int
  c6 : Int

def Ln.enc (s : Ln) : List Value := [.int .u32 s.age, .int .i64 s.jump, .int .i64 s.throw, .int .i64 s.most, .bool s.any, .int .u16 s.seq, .int .u32 s.time, .int .i64 s.high, .int .u32 s.since, .bool s.has,
  .int .i64 s.last, .bool s.based, .int .i64 s.threw, .int .i64 s.c0, .int .i64 s.c1, .int .i64 s.c2, .int .i64 s.c3, .int .i64 s.c4, .int .i64 s.c5, .int .i64 s.c6]

def Ln.counts (s : Ln) : List Int := [s.c0, s.c1, s.c2, s.c3, s.c4, s.c5, s.c6]

def Ln.note (s : Ln) (k : Int) : Ln :=
  if k = 0 then { s with c0 := wrap64 (s.c0 + 1) } else if k = 1 then { s with c1 := wrap64 (s.c1 + 1) } else if k = 2 then { s with c2 := wrap64 (s.c2 + 1) } else if k = 3 then { s with c3 := wrap64 (s.c3 + 1) }
  else if k = 4 then { s with c4 := wrap64 (s.c4 + 1) } else if k = 5 then { s with c5 := wrap64 (s.c5 + 1) } else { s with c6 := wrap64 (s.c6 + 1) }

theorem note_enc (s : Ln) (k : Nat) (hk : k ≤ 6) : ∃ n, s.enc[13 + k]? = some (.int .i64 n) ∧ s.enc.set (13 + k) (.int .i64 (wrap64 (n + 1))) = (s.note k).enc := by
  obtain rfl | rfl | rfl | rfl | rfl | rfl | rfl : k = 0 ∨ k = 1 ∨ k = 2 ∨ k = 3 ∨ k = 4 ∨ k = 5 ∨ k = 6 := by omega
  all_goals exact ⟨_, rfl, rfl⟩

set_option maxHeartbeats 400000 in
theorem note_any (g o : Nat) (t : TypeId) (cs : Array Value) (s : Ln) (k : Int) (w : World) (H : Hold w g t cs o s.enc) (h0 : 0 ≤ k) (h6 : k ≤ 6) :
    Calls Try.prog 92 #[.pointer (some ⟨g, o, none⟩), .int .i64 k] w fun e w' => e = .returned (.int .i64 k) ∧ Upd w g t cs o (s.note k).enc w' := by
  obtain ⟨k, rfl⟩ := Int.eq_ofNat_of_zero_le h0
  obtain ⟨n, hn, hs⟩ := note_enc s k (by omega)
  have hl : 13 + k < s.enc.length := (List.getElem?_eq_some_iff.1 hn).1
  have hc : w.cell? ⟨g, o + 13 + k, none⟩ = some (.int .i64 n) := by rw [Nat.add_assoc]; exact H.cell_is hn
  have hf : w.frozen? ⟨g, o + 13 + k, none⟩ = false := H.frozen _
  have hk2 : (k : Int) < 7 := by omega
  have fin : Hid (Upd w g t cs o (s.note k).enc (w.drew.setCell ⟨g, o + 13 + k, none⟩ (.int .i64 (wrap64 (n + 1))))) := by
    rw [← hs, Nat.add_assoc]
    exact (Upd.start H).drew.set_ (13 + k) _ hl
  clear H hn hs hl h0 h6
  go_enter Try.func92, Try.ntmps92
  go_wp2
  go_region
  go_wp2

  go_ret
  exact ⟨rfl, fin.out⟩

/-- A frame as a value. -/
def frm (kind seq time a b c : Int) : Value := .agg #[.int .i64 kind, .int .u16 seq, .int .u32 time, .int .i32 a, .int .i32 b, .int .i32 c]

def Ln.late (s : Ln) (seq time : Int) : Bool := s.any && (!(newerB seq s.seq) || decide (time < s.time))
def Ln.order (s : Ln) (seq time : Int) : Ln := if s.late seq time then s else { s with any := true, seq := seq, time := time }


theorem order_done {w : World} {g : Nat} {t : TypeId} {cs : Array Value} {o : Nat} {s : Ln} (H : Hold w g t cs o s.enc) (seq time : Int) (ob : Obj) (n : Nat) :
    Upd w g t cs o (Ln.enc { s with any := true, seq := seq, time := time }) (((((w.alloc ob).drewN n).setCell ⟨g, o + 4, none⟩ (.bool true)).setCell ⟨g, o + 5, none⟩ (.int .u16 seq)).setCell ⟨g, o + 6, none⟩ (.int .u32 time)) :=
  ((((Upd.start H).alloc ob).drewN n).set_ 4 (.bool true) (by simp [Ln.enc]) |>.set_ 5 (.int .u16 seq) (by simp [Ln.enc]) |>.set_ 6 (.int .u32 time) (by simp [Ln.enc]))

set_option maxHeartbeats 400000 in
theorem order_a (g o : Nat) (t : TypeId) (cs : Array Value) (s : Ln) (kind seq time a b c : Int) (w : World) (H : Hold w g t cs o s.enc) (hany : s.any = false) :
    Calls Try.prog 93 #[.pointer (some ⟨g, o, none⟩), frm kind seq time a b c] w fun e w' => e = .returned (.bool (!(s.late seq time))) ∧ Upd w g t cs o (s.order seq time).enc w' := by
  have h4 : w.cell? ⟨g, o + 4, none⟩ = some (.bool s.any) := H.cell_is rfl
  have h5 : w.cell? ⟨g, o + 5, none⟩ = some (.int .u16 s.seq) := H.cell_is rfl
  have h6 : w.cell? ⟨g, o + 6, none⟩ = some (.int .u32 s.time) := H.cell_is rfl
  have f4 : w.frozen? ⟨g, o + 4, none⟩ = false := H.frozen _
  have f5 : w.frozen? ⟨g, o + 5, none⟩ = false := H.frozen _
  have f6 : w.frozen? ⟨g, o + 6, none⟩ = false := H.frozen _
  have hg := H.lt
  have HH := Lib.hid H
  unfold frm
  have e1 : s.late seq time = false := by simp [Ln.late, hany]
  have e2 : s.order seq time = { s with any := true, seq := seq, time := time } := by simp [Ln.order, e1]
  rw [e1, e2]
  rw [hany] at h4
  clear H hany e1 e2
  go_enter Try.func93, Try.ntmps93
  go_wp2
  go_quiet (fail)
  go_wp2
  go_region
  go_wp2
  go_ret
  exact ⟨rfl, order_done HH.out _ _ _ _⟩

set_option maxHeartbeats 400000 in
theorem order_b (g o : Nat) (t : TypeId) (cs : Array Value) (s : Ln) (kind seq time a b c : Int) (w : World) (H : Hold w g t cs o s.enc) (hany : s.any = true) (hn : newerB seq s.seq = false) :
    Calls Try.prog 93 #[.pointer (some ⟨g, o, none⟩), frm kind seq time a b c] w fun e w' => e = .returned (.bool (!(s.late seq time))) ∧ Upd w g t cs o (s.order seq time).enc w' := by
  have h4 : w.cell? ⟨g, o + 4, none⟩ = some (.bool s.any) := H.cell_is rfl
  have h5 : w.cell? ⟨g, o + 5, none⟩ = some (.int .u16 s.seq) := H.cell_is rfl
  have h6 : w.cell? ⟨g, o + 6, none⟩ = some (.int .u32 s.time) := H.cell_is rfl
  have f4 : w.frozen? ⟨g, o + 4, none⟩ = false := H.frozen _
  have f5 : w.frozen? ⟨g, o + 5, none⟩ = false := H.frozen _
  have f6 : w.frozen? ⟨g, o + 6, none⟩ = false := H.frozen _
  have hg := H.lt
  have HH := Lib.hid H
  unfold frm
  have e1 : s.late seq time = true := by simp [Ln.late, hany, hn]
  have e2 : s.order seq time = s := by simp [Ln.order, e1]
  rw [e1, e2]
  rw [hany] at h4
  clear H hany e1 e2
  go_enter Try.func93, Try.ntmps93
  go_wp2
  go_quiet ((go_at_call 109; exact quiet_left (newer_any _ _ _)))
  go_wp2
  go_ret
  exact ⟨rfl, ((Upd.start HH.out).alloc _).drewN _⟩

set_option maxHeartbeats 400000 in
theorem order_c (g o : Nat) (t : TypeId) (cs : Array Value) (s : Ln) (kind seq time a b c : Int) (w : World) (H : Hold w g t cs o s.enc) (hany : s.any = true) (hn : newerB seq s.seq = true) (ht : decide (time < s.time) = false) :
    Calls Try.prog 93 #[.pointer (some ⟨g, o, none⟩), frm kind seq time a b c] w fun e w' => e = .returned (.bool (!(s.late seq time))) ∧ Upd w g t cs o (s.order seq time).enc w' := by
  have h4 : w.cell? ⟨g, o + 4, none⟩ = some (.bool s.any) := H.cell_is rfl
  have h5 : w.cell? ⟨g, o + 5, none⟩ = some (.int .u16 s.seq) := H.cell_is rfl
  have h6 : w.cell? ⟨g, o + 6, none⟩ = some (.int .u32 s.time) := H.cell_is rfl
  have f4 : w.frozen? ⟨g, o + 4, none⟩ = false := H.frozen _
  have f5 : w.frozen? ⟨g, o + 5, none⟩ = false := H.frozen _
  have f6 : w.frozen? ⟨g, o + 6, none⟩ = false := H.frozen _
  have hg := H.lt
  have HH := Lib.hid H
  unfold frm
  have e1 : s.late seq time = false := by simp [Ln.late, hany, hn, ht]
  have e2 : s.order seq time = { s with any := true, seq := seq, time := time } := by simp [Ln.order, e1]
  rw [e1, e2]
  rw [hany] at h4
  clear H hany e1 e2
  go_enter Try.func93, Try.ntmps93
  go_wp2
  go_quiet ((go_at_call 109; exact quiet_left (newer_any _ _ _)))
  go_wp2
  go_region
  go_wp2
  go_ret
  exact ⟨rfl, order_done HH.out _ _ _ _⟩

set_option maxHeartbeats 400000 in
theorem order_d (g o : Nat) (t : TypeId) (cs : Array Value) (s : Ln) (kind seq time a b c : Int) (w : World) (H : Hold w g t cs o s.enc) (hany : s.any = true) (hn : newerB seq s.seq = true) (ht : decide (time < s.time) = true) :
    Calls Try.prog 93 #[.pointer (some ⟨g, o, none⟩), frm kind seq time a b c] w fun e w' => e = .returned (.bool (!(s.late seq time))) ∧ Upd w g t cs o (s.order seq time).enc w' := by
  have h4 : w.cell? ⟨g, o + 4, none⟩ = some (.bool s.any) := H.cell_is rfl
  have h5 : w.cell? ⟨g, o + 5, none⟩ = some (.int .u16 s.seq) := H.cell_is rfl
  have h6 : w.cell? ⟨g, o + 6, none⟩ = some (.int .u32 s.time) := H.cell_is rfl
  have f4 : w.frozen? ⟨g, o + 4, none⟩ = false := H.frozen _
  have f5 : w.frozen? ⟨g, o + 5, none⟩ = false := H.frozen _
  have f6 : w.frozen? ⟨g, o + 6, none⟩ = false := H.frozen _
  have hg := H.lt
  have HH := Lib.hid H
  unfold frm
  have e1 : s.late seq time = true := by simp [Ln.late, hany, hn, ht]
  have e2 : s.order seq time = s := by simp [Ln.order, e1]
  rw [e1, e2]
  rw [hany] at h4
  clear H hany e1 e2
  go_enter Try.func93, Try.ntmps93
  go_wp2
  go_quiet ((go_at_call 109; exact quiet_left (newer_any _ _ _)))
  go_wp2
  go_ret
  exact ⟨rfl, ((Upd.start HH.out).alloc _).drewN _⟩

theorem order_any (g o : Nat) (t : TypeId) (cs : Array Value) (s : Ln) (kind seq time a b c : Int) (w : World) (H : Hold w g t cs o s.enc) :
    Calls Try.prog 93 #[.pointer (some ⟨g, o, none⟩), frm kind seq time a b c] w fun e w' => e = .returned (.bool (!(s.late seq time))) ∧ Upd w g t cs o (s.order seq time).enc w' := by
  rcases hany : s.any with _ | _
  · exact order_a g o t cs s kind seq time a b c w H hany
  · rcases hn : newerB seq s.seq with _ | _
    · exact order_b g o t cs s kind seq time a b c w H hany hn
    · rcases ht : decide (time < s.time) with _ | _
      · exact order_c g o t cs s kind seq time a b c w H hany hn ht
      · exact order_d g o t cs s kind seq time a b c w H hany hn ht
end Go.Proofs.Ytpmomimaihjmjaa
/- Walks of package clearance: radar, one theorem for each way through it. -/
namespace Go.Proofs.Ytpmomimaihjmjaa
open Go.RowKit

theorem note_upd {w0 : World} (g o : Nat) (t : TypeId) (cs : Array Value) (s : Ln) (k : Int) (w : World) (U : Upd w0 g t cs o s.enc w) (h0 : 0 ≤ k) (h6 : k ≤ 6) :
    Calls Try.prog 92 #[.pointer (some ⟨g, o, none⟩), .int .i64 k] w fun e w' => e = .returned (.int .i64 k) ∧ Upd w0 g t cs o (s.note k).enc w' :=
  (note_any g o t cs s k w U.1 h0 h6).mono fun _ _ ⟨he, hu⟩ => ⟨he, U.trans hu⟩

set_option maxHeartbeats 400000 in
theorem radar_a (g o : Nat) (t : TypeId) (cs : Array Value) (s : Ln) (kind seq time a b c : Int) (w : World) (H : Hold w g t cs o s.enc) (ha : -2147483648 ≤ a) (hb : a < 2147483648)
    (c1 : a < 0) :
    Calls Try.prog 94 #[.pointer (some ⟨g, o, none⟩), frm kind seq time a b c] w fun e w' => e = .returned (.tuple #[.int .i64 2, .int .i64 0, .bool false]) ∧ Upd w g t cs o (s.note 2).enc w' := by
  have h0 : w.cell? ⟨g, o, none⟩ = some (.int .u32 s.age) := H.cell_is (k := 0) rfl
  have h1 : w.cell? ⟨g, o + 1, none⟩ = some (.int .i64 s.jump) := H.cell_is rfl
  have h2 : w.cell? ⟨g, o + 2, none⟩ = some (.int .i64 s.throw) := H.cell_is rfl
  have h3 : w.cell? ⟨g, o + 3, none⟩ = some (.int .i64 s.most) := H.cell_is rfl
  have h7 : w.cell? ⟨g, o + 7, none⟩ = some (.int .i64 s.high) := H.cell_is rfl
  have h8 : w.cell? ⟨g, o + 8, none⟩ = some (.int .u32 s.since) := H.cell_is rfl
  have h9 : w.cell? ⟨g, o + 9, none⟩ = some (.bool s.has) := H.cell_is rfl
  have h10 : w.cell? ⟨g, o + 10, none⟩ = some (.int .i64 s.last) := H.cell_is rfl
  have h11 : w.cell? ⟨g, o + 11, none⟩ = some (.bool s.based) := H.cell_is rfl
  have h12 : w.cell? ⟨g, o + 12, none⟩ = some (.int .i64 s.threw) := H.cell_is rfl
  have f10 : w.frozen? ⟨g, o + 10, none⟩ = false := H.frozen _
  have f11 : w.frozen? ⟨g, o + 11, none⟩ = false := H.frozen _
  have f12 : w.frozen? ⟨g, o + 12, none⟩ = false := H.frozen _
  have hg := H.lt
  have HH := Lib.hid H
  clear H
  unfold frm
  go_enter Try.func94, Try.ntmps94
  go_wp2_with fail
  refine (note_upd g o t cs s 2 _ ((Upd.start HH.out).alloc _) (by decide) (by decide)).mono ?_
  rintro e w' ⟨rfl, hu⟩
  go_wp2
  go_ret3
  exact ⟨rfl, hu⟩

set_option maxHeartbeats 400000 in
theorem radar_b (g o : Nat) (t : TypeId) (cs : Array Value) (s : Ln) (kind seq time a b c : Int) (w : World) (H : Hold w g t cs o s.enc) (ha : -2147483648 ≤ a) (hb : a < 2147483648)
    (c1 : 0 ≤ a) (c2 : s.most < a) :
    Calls Try.prog 94 #[.pointer (some ⟨g, o, none⟩), frm kind seq time a b c] w fun e w' => e = .returned (.tuple #[.int .i64 2, .int .i64 0, .bool false]) ∧ Upd w g t cs o (s.note 2).enc w' := by
  have h0 : w.cell? ⟨g, o, none⟩ = some (.int .u32 s.age) := H.cell_is (k := 0) rfl
  have h1 : w.cell? ⟨g, o + 1, none⟩ = some (.int .i64 s.jump) := H.cell_is rfl
  have h2 : w.cell? ⟨g, o + 2, none⟩ = some (.int .i64 s.throw) := H.cell_is rfl
  have h3 : w.cell? ⟨g, o + 3, none⟩ = some (.int .i64 s.most) := H.cell_is rfl
  have h7 : w.cell? ⟨g, o + 7, none⟩ = some (.int .i64 s.high) := H.cell_is rfl
  have h8 : w.cell? ⟨g, o + 8, none⟩ = some (.int .u32 s.since) := H.cell_is rfl
  have h9 : w.cell? ⟨g, o + 9, none⟩ = some (.bool s.has) := H.cell_is rfl
  have h10 : w.cell? ⟨g, o + 10, none⟩ = some (.int .i64 s.last) := H.cell_is rfl
  have h11 : w.cell? ⟨g, o + 11, none⟩ = some (.bool s.based) := H.cell_is rfl
  have h12 : w.cell? ⟨g, o + 12, none⟩ = some (.int .i64 s.threw) := H.cell_is rfl
  have f10 : w.frozen? ⟨g, o + 10, none⟩ = false := H.frozen _
  have f11 : w.frozen? ⟨g, o + 11, none⟩ = false := H.frozen _
  have f12 : w.frozen? ⟨g, o + 12, none⟩ = false := H.frozen _
  have hg := H.lt
  have HH := Lib.hid H
  clear H
  unfold frm
  go_enter Try.func94, Try.ntmps94
  go_wp2_with fail
  refine (note_upd g o t cs s 2 _ ((Upd.start HH.out).alloc _) (by decide) (by decide)).mono ?_
  rintro e w' ⟨rfl, hu⟩
  go_wp2
  go_ret3
  exact ⟨rfl, hu⟩

set_option maxHeartbeats 400000 in
theorem radar_c0 (g o : Nat) (t : TypeId) (cs : Array Value) (s : Ln) (kind seq time a b c : Int) (w : World) (H : Hold w g t cs o s.enc) (ha : -2147483648 ≤ a) (hb : a < 2147483648)
    (c1 : 0 ≤ a) (c2 : a ≤ s.most) (c3 : s.has = false) :
    Calls Try.prog 94 #[.pointer (some ⟨g, o, none⟩), frm kind seq time a b c] w fun e w' => e = .returned (.tuple #[.int .i64 3, .int .i64 0, .bool false]) ∧ Upd w g t cs o (s.note 3).enc w' := by
  have h0 : w.cell? ⟨g, o, none⟩ = some (.int .u32 s.age) := H.cell_is (k := 0) rfl
  have h1 : w.cell? ⟨g, o + 1, none⟩ = some (.int .i64 s.jump) := H.cell_is rfl
  have h2 : w.cell? ⟨g, o + 2, none⟩ = some (.int .i64 s.throw) := H.cell_is rfl
  have h3 : w.cell? ⟨g, o + 3, none⟩ = some (.int .i64 s.most) := H.cell_is rfl
  have h7 : w.cell? ⟨g, o + 7, none⟩ = some (.int .i64 s.high) := H.cell_is rfl
  have h8 : w.cell? ⟨g, o + 8, none⟩ = some (.int .u32 s.since) := H.cell_is rfl
  have h9 : w.cell? ⟨g, o + 9, none⟩ = some (.bool s.has) := H.cell_is rfl
  have h10 : w.cell? ⟨g, o + 10, none⟩ = some (.int .i64 s.last) := H.cell_is rfl
  have h11 : w.cell? ⟨g, o + 11, none⟩ = some (.bool s.based) := H.cell_is rfl
  have h12 : w.cell? ⟨g, o + 12, none⟩ = some (.int .i64 s.threw) := H.cell_is rfl
  have f10 : w.frozen? ⟨g, o + 10, none⟩ = false := H.frozen _
  have f11 : w.frozen? ⟨g, o + 11, none⟩ = false := H.frozen _
  have f12 : w.frozen? ⟨g, o + 12, none⟩ = false := H.frozen _
  have hg := H.lt
  have HH := Lib.hid H
  clear H
  rw [c3] at h9
  clear c3
  unfold frm
  go_enter Try.func94, Try.ntmps94
  go_wp2_with fail
  go_quiet (fail)
  go_wp2_with fail
  refine (note_upd g o t cs s 3 _ (((Upd.start HH.out).alloc _).drewN _) (by decide) (by decide)).mono ?_
  rintro e w' ⟨rfl, hu⟩
  go_wp2
  go_ret3
  exact ⟨rfl, hu⟩

set_option maxHeartbeats 400000 in
theorem radar_d (g o : Nat) (t : TypeId) (cs : Array Value) (s : Ln) (kind seq time a b c : Int) (w : World) (H : Hold w g t cs o s.enc) (ha : -2147483648 ≤ a) (hb : a < 2147483648)
    (c1 : 0 ≤ a) (c2 : a ≤ s.most) (c3 : s.has = true) (c4 : s.age < (time - s.since) % 4294967296) :
    Calls Try.prog 94 #[.pointer (some ⟨g, o, none⟩), frm kind seq time a b c] w fun e w' => e = .returned (.tuple #[.int .i64 3, .int .i64 0, .bool false]) ∧ Upd w g t cs o (s.note 3).enc w' := by
  have h0 : w.cell? ⟨g, o, none⟩ = some (.int .u32 s.age) := H.cell_is (k := 0) rfl
  have h1 : w.cell? ⟨g, o + 1, none⟩ = some (.int .i64 s.jump) := H.cell_is rfl
  have h2 : w.cell? ⟨g, o + 2, none⟩ = some (.int .i64 s.throw) := H.cell_is rfl
  have h3 : w.cell? ⟨g, o + 3, none⟩ = some (.int .i64 s.most) := H.cell_is rfl
  have h7 : w.cell? ⟨g, o + 7, none⟩ = some (.int .i64 s.high) := H.cell_is rfl
  have h8 : w.cell? ⟨g, o + 8, none⟩ = some (.int .u32 s.since) := H.cell_is rfl
  have h9 : w.cell? ⟨g, o + 9, none⟩ = some (.bool s.has) := H.cell_is rfl
  have h10 : w.cell? ⟨g, o + 10, none⟩ = some (.int .i64 s.last) := H.cell_is rfl
  have h11 : w.cell? ⟨g, o + 11, none⟩ = some (.bool s.based) := H.cell_is rfl
  have h12 : w.cell? ⟨g, o + 12, none⟩ = some (.int .i64 s.threw) := H.cell_is rfl
  have f10 : w.frozen? ⟨g, o + 10, none⟩ = false := H.frozen _
  have f11 : w.frozen? ⟨g, o + 11, none⟩ = false := H.frozen _
  have f12 : w.frozen? ⟨g, o + 12, none⟩ = false := H.frozen _
  have hg := H.lt
  have HH := Lib.hid H
  clear H
  rw [c3] at h9
  clear c3
  unfold frm
  go_enter Try.func94, Try.ntmps94
  go_wp2_with fail
  go_quiet (fail)
  go_wp2_with fail
  refine (note_upd g o t cs s 3 _ (((Upd.start HH.out).alloc _).drewN _) (by decide) (by decide)).mono ?_
  rintro e w' ⟨rfl, hu⟩
  go_wp2
  go_ret3
  exact ⟨rfl, hu⟩

theorem radar_done {w : World} {g : Nat} {t : TypeId} {cs : Array Value} {o : Nat} {s : Ln} (H : Hold w g t cs o s.enc) (z : Int) (ob : Obj) (n : Nat) :
    Upd w g t cs o (Ln.enc { s with last := z, based := true, threw := 0 }) (((((w.alloc ob).drewN n).setCell ⟨g, o + 10, none⟩ (.int .i64 z)).setCell ⟨g, o + 11, none⟩ (.bool true)).setCell ⟨g, o + 12, none⟩ (.int .i64 0)) :=
  ((((Upd.start H).alloc ob).drewN n).set_ 10 (.int .i64 z) (by simp [Ln.enc]) |>.set_ 11 (.bool true) (by simp [Ln.enc]) |>.set_ 12 (.int .i64 0) (by simp [Ln.enc]))

set_option maxHeartbeats 400000 in
theorem radar_e (g o : Nat) (t : TypeId) (cs : Array Value) (s : Ln) (kind seq time a b c : Int) (w : World) (H : Hold w g t cs o s.enc) (ha : -2147483648 ≤ a) (hb : a < 2147483648)
    (c1 : 0 ≤ a) (c2 : a ≤ s.most) (c3 : s.has = true) (c4 : (time - s.since) % 4294967296 ≤ s.age) (i1 : -2147483648 ≤ s.high) (i2 : s.high < 2147483648) (i3 : -4294967296 ≤ s.last) (i4 : s.last ≤ 4294967296) (i5 : 1 ≤ s.jump) (i6 : 0 ≤ s.threw) (i7 : s.threw ≤ 1000) (c5 : s.based = false) :
    Calls Try.prog 94 #[.pointer (some ⟨g, o, none⟩), frm kind seq time a b c] w fun e w' => e = .returned (.tuple #[.int .i64 0, .int .i64 (s.high - a), .bool true]) ∧ Upd w g t cs o (({ s with last := s.high - a, based := true, threw := 0 } : Ln).note 0).enc w' := by
  have h0 : w.cell? ⟨g, o, none⟩ = some (.int .u32 s.age) := H.cell_is (k := 0) rfl
  have h1 : w.cell? ⟨g, o + 1, none⟩ = some (.int .i64 s.jump) := H.cell_is rfl
  have h2 : w.cell? ⟨g, o + 2, none⟩ = some (.int .i64 s.throw) := H.cell_is rfl
  have h3 : w.cell? ⟨g, o + 3, none⟩ = some (.int .i64 s.most) := H.cell_is rfl
  have h7 : w.cell? ⟨g, o + 7, none⟩ = some (.int .i64 s.high) := H.cell_is rfl
  have h8 : w.cell? ⟨g, o + 8, none⟩ = some (.int .u32 s.since) := H.cell_is rfl
  have h9 : w.cell? ⟨g, o + 9, none⟩ = some (.bool s.has) := H.cell_is rfl
  have h10 : w.cell? ⟨g, o + 10, none⟩ = some (.int .i64 s.last) := H.cell_is rfl
  have h11 : w.cell? ⟨g, o + 11, none⟩ = some (.bool s.based) := H.cell_is rfl
  have h12 : w.cell? ⟨g, o + 12, none⟩ = some (.int .i64 s.threw) := H.cell_is rfl
  have f10 : w.frozen? ⟨g, o + 10, none⟩ = false := H.frozen _
  have f11 : w.frozen? ⟨g, o + 11, none⟩ = false := H.frozen _
  have f12 : w.frozen? ⟨g, o + 12, none⟩ = false := H.frozen _
  have hg := H.lt
  have HH := Lib.hid H
  clear H
  rw [c3] at h9
  rw [c5] at h11
  clear c3 c5
  unfold frm
  go_enter Try.func94, Try.ntmps94
  go_wp2_with fail
  go_quiet (fail)
  go_wp2_with fail
  refine (note_upd g o t cs { s with last := s.high - a, based := true, threw := 0 } 0 _ (radar_done HH.out _ _ _) (by decide) (by decide)).mono ?_
  rintro e w' ⟨rfl, hu⟩
  go_wp2
  go_ret3
  exact ⟨rfl, hu⟩

set_option maxHeartbeats 400000 in
theorem radar_f (g o : Nat) (t : TypeId) (cs : Array Value) (s : Ln) (kind seq time a b c : Int) (w : World) (H : Hold w g t cs o s.enc) (ha : -2147483648 ≤ a) (hb : a < 2147483648)
    (c1 : 0 ≤ a) (c2 : a ≤ s.most) (c3 : s.has = true) (c4 : (time - s.since) % 4294967296 ≤ s.age) (i1 : -2147483648 ≤ s.high) (i2 : s.high < 2147483648) (i3 : -4294967296 ≤ s.last) (i4 : s.last ≤ 4294967296) (i5 : 1 ≤ s.jump) (i6 : 0 ≤ s.threw) (i7 : s.threw ≤ 1000) (c5 : s.based = true) (c6 : s.high - a - s.last ≤ s.jump) (c7 : -s.jump ≤ s.high - a - s.last) :
    Calls Try.prog 94 #[.pointer (some ⟨g, o, none⟩), frm kind seq time a b c] w fun e w' => e = .returned (.tuple #[.int .i64 0, .int .i64 (s.high - a), .bool true]) ∧ Upd w g t cs o (({ s with last := s.high - a, based := true, threw := 0 } : Ln).note 0).enc w' := by
  have h0 : w.cell? ⟨g, o, none⟩ = some (.int .u32 s.age) := H.cell_is (k := 0) rfl
  have h1 : w.cell? ⟨g, o + 1, none⟩ = some (.int .i64 s.jump) := H.cell_is rfl
  have h2 : w.cell? ⟨g, o + 2, none⟩ = some (.int .i64 s.throw) := H.cell_is rfl
  have h3 : w.cell? ⟨g, o + 3, none⟩ = some (.int .i64 s.most) := H.cell_is rfl
  have h7 : w.cell? ⟨g, o + 7, none⟩ = some (.int .i64 s.high) := H.cell_is rfl
  have h8 : w.cell? ⟨g, o + 8, none⟩ = some (.int .u32 s.since) := H.cell_is rfl
  have h9 : w.cell? ⟨g, o + 9, none⟩ = some (.bool s.has) := H.cell_is rfl
  have h10 : w.cell? ⟨g, o + 10, none⟩ = some (.int .i64 s.last) := H.cell_is rfl
  have h11 : w.cell? ⟨g, o + 11, none⟩ = some (.bool s.based) := H.cell_is rfl
  have h12 : w.cell? ⟨g, o + 12, none⟩ = some (.int .i64 s.threw) := H.cell_is rfl
  have f10 : w.frozen? ⟨g, o + 10, none⟩ = false := H.frozen _
  have f11 : w.frozen? ⟨g, o + 11, none⟩ = false := H.frozen _
  have f12 : w.frozen? ⟨g, o + 12, none⟩ = false := H.frozen _
  have hg := H.lt
  have HH := Lib.hid H
  clear H
  rw [c3] at h9
  rw [c5] at h11
  clear c3 c5
  unfold frm
  go_enter Try.func94, Try.ntmps94
  go_wp2_with fail
  go_quiet (fail)
  go_wp2_with fail
  all_goals
    refine (note_upd g o t cs { s with last := s.high - a, based := true, threw := 0 } 0 _ (radar_done HH.out _ _ _) (by decide) (by decide)).mono ?_
    rintro e w' ⟨rfl, hu⟩
    go_wp2
    go_ret3
    exact ⟨rfl, hu⟩

theorem throw_done {w : World} {g : Nat} {t : TypeId} {cs : Array Value} {o : Nat} {s : Ln} (H : Hold w g t cs o s.enc) (ob : Obj) (n : Nat) :
    Upd w g t cs o (Ln.enc { s with threw := s.threw + 1 }) (((w.alloc ob).drewN n).setCell ⟨g, o + 12, none⟩ (.int .i64 (s.threw + 1))) :=
  (((Upd.start H).alloc ob).drewN n).set_ 12 (.int .i64 (s.threw + 1)) (by simp [Ln.enc])

set_option maxHeartbeats 400000 in
theorem radar_g (g o : Nat) (t : TypeId) (cs : Array Value) (s : Ln) (kind seq time a b c : Int) (w : World) (H : Hold w g t cs o s.enc) (ha : -2147483648 ≤ a) (hb : a < 2147483648)
    (c1 : 0 ≤ a) (c2 : a ≤ s.most) (c3 : s.has = true) (c4 : (time - s.since) % 4294967296 ≤ s.age) (i1 : -2147483648 ≤ s.high) (i2 : s.high < 2147483648) (i3 : -4294967296 ≤ s.last) (i4 : s.last ≤ 4294967296) (i5 : 1 ≤ s.jump) (i6 : 0 ≤ s.threw) (i7 : s.threw ≤ 1000) (c5 : s.based = true) (c6 : s.jump < s.high - a - s.last) (c7 : s.threw < s.throw) :
    Calls Try.prog 94 #[.pointer (some ⟨g, o, none⟩), frm kind seq time a b c] w fun e w' => e = .returned (.tuple #[.int .i64 4, .int .i64 0, .bool false]) ∧ Upd w g t cs o (({ s with threw := s.threw + 1 } : Ln).note 4).enc w' := by
  have h0 : w.cell? ⟨g, o, none⟩ = some (.int .u32 s.age) := H.cell_is (k := 0) rfl
  have h1 : w.cell? ⟨g, o + 1, none⟩ = some (.int .i64 s.jump) := H.cell_is rfl
  have h2 : w.cell? ⟨g, o + 2, none⟩ = some (.int .i64 s.throw) := H.cell_is rfl
  have h3 : w.cell? ⟨g, o + 3, none⟩ = some (.int .i64 s.most) := H.cell_is rfl
  have h7 : w.cell? ⟨g, o + 7, none⟩ = some (.int .i64 s.high) := H.cell_is rfl
  have h8 : w.cell? ⟨g, o + 8, none⟩ = some (.int .u32 s.since) := H.cell_is rfl
  have h9 : w.cell? ⟨g, o + 9, none⟩ = some (.bool s.has) := H.cell_is rfl
  have h10 : w.cell? ⟨g, o + 10, none⟩ = some (.int .i64 s.last) := H.cell_is rfl
  have h11 : w.cell? ⟨g, o + 11, none⟩ = some (.bool s.based) := H.cell_is rfl
  have h12 : w.cell? ⟨g, o + 12, none⟩ = some (.int .i64 s.threw) := H.cell_is rfl
  have f10 : w.frozen? ⟨g, o + 10, none⟩ = false := H.frozen _
  have f11 : w.frozen? ⟨g, o + 11, none⟩ = false := H.frozen _
  have f12 : w.frozen? ⟨g, o + 12, none⟩ = false := H.frozen _
  have hg := H.lt
  have HH := Lib.hid H
  clear H
  rw [c3] at h9
  rw [c5] at h11
  clear c3 c5
  unfold frm
  go_enter Try.func94, Try.ntmps94
  go_wp2_with fail
  go_quiet (fail)
  go_wp2_with fail
  all_goals
    go_quiet (fail)
    go_wp2_with fail
    refine (note_upd g o t cs { s with threw := s.threw + 1 } 4 _ (throw_done HH.out _ _) (by decide) (by decide)).mono ?_
    rintro e w' ⟨rfl, hu⟩
    go_wp2
    go_ret3
    exact ⟨rfl, hu⟩

set_option maxHeartbeats 400000 in
theorem radar_g2 (g o : Nat) (t : TypeId) (cs : Array Value) (s : Ln) (kind seq time a b c : Int) (w : World) (H : Hold w g t cs o s.enc) (ha : -2147483648 ≤ a) (hb : a < 2147483648)
    (c1 : 0 ≤ a) (c2 : a ≤ s.most) (c3 : s.has = true) (c4 : (time - s.since) % 4294967296 ≤ s.age) (i1 : -2147483648 ≤ s.high) (i2 : s.high < 2147483648) (i3 : -4294967296 ≤ s.last) (i4 : s.last ≤ 4294967296) (i5 : 1 ≤ s.jump) (i6 : 0 ≤ s.threw) (i7 : s.threw ≤ 1000) (c5 : s.based = true) (c6 : s.jump < s.high - a - s.last) (c7 : s.throw ≤ s.threw) :
    Calls Try.prog 94 #[.pointer (some ⟨g, o, none⟩), frm kind seq time a b c] w fun e w' => e = .returned (.tuple #[.int .i64 5, .int .i64 (s.high - a), .bool true]) ∧ Upd w g t cs o (({ s with last := s.high - a, based := true, threw := 0 } : Ln).note 5).enc w' := by
  have h0 : w.cell? ⟨g, o, none⟩ = some (.int .u32 s.age) := H.cell_is (k := 0) rfl
  have h1 : w.cell? ⟨g, o + 1, none⟩ = some (.int .i64 s.jump) := H.cell_is rfl
  have h2 : w.cell? ⟨g, o + 2, none⟩ = some (.int .i64 s.throw) := H.cell_is rfl
  have h3 : w.cell? ⟨g, o + 3, none⟩ = some (.int .i64 s.most) := H.cell_is rfl
  have h7 : w.cell? ⟨g, o + 7, none⟩ = some (.int .i64 s.high) := H.cell_is rfl
  have h8 : w.cell? ⟨g, o + 8, none⟩ = some (.int .u32 s.since) := H.cell_is rfl
  have h9 : w.cell? ⟨g, o + 9, none⟩ = some (.bool s.has) := H.cell_is rfl
  have h10 : w.cell? ⟨g, o + 10, none⟩ = some (.int .i64 s.last) := H.cell_is rfl
  have h11 : w.cell? ⟨g, o + 11, none⟩ = some (.bool s.based) := H.cell_is rfl
  have h12 : w.cell? ⟨g, o + 12, none⟩ = some (.int .i64 s.threw) := H.cell_is rfl
  have f10 : w.frozen? ⟨g, o + 10, none⟩ = false := H.frozen _
  have f11 : w.frozen? ⟨g, o + 11, none⟩ = false := H.frozen _
  have f12 : w.frozen? ⟨g, o + 12, none⟩ = false := H.frozen _
  have hg := H.lt
  have HH := Lib.hid H
  clear H
  rw [c3] at h9
  rw [c5] at h11
  clear c3 c5
  unfold frm
  go_enter Try.func94, Try.ntmps94
  go_wp2_with fail
  go_quiet (fail)
  go_wp2_with fail
  all_goals
    go_quiet (fail)
    go_wp2_with fail
    refine (note_upd g o t cs { s with last := s.high - a, based := true, threw := 0 } 5 _ (radar_done HH.out _ _ _) (by decide) (by decide)).mono ?_
    rintro e w' ⟨rfl, hu⟩
    go_wp2
    go_ret3
    exact ⟨rfl, hu⟩

set_option maxHeartbeats 400000 in
theorem radar_h (g o : Nat) (t : TypeId) (cs : Array Value) (s : Ln) (kind seq time a b c : Int) (w : World) (H : Hold w g t cs o s.enc) (ha : -2147483648 ≤ a) (hb : a < 2147483648)
    (c1 : 0 ≤ a) (c2 : a ≤ s.most) (c3 : s.has = true) (c4 : (time - s.since) % 4294967296 ≤ s.age) (i1 : -2147483648 ≤ s.high) (i2 : s.high < 2147483648) (i3 : -4294967296 ≤ s.last) (i4 : s.last ≤ 4294967296) (i5 : 1 ≤ s.jump) (i6 : 0 ≤ s.threw) (i7 : s.threw ≤ 1000) (c5 : s.based = true) (c6 : s.high - a - s.last < -s.jump) (c7 : s.threw < s.throw) :
    Calls Try.prog 94 #[.pointer (some ⟨g, o, none⟩), frm kind seq time a b c] w fun e w' => e = .returned (.tuple #[.int .i64 4, .int .i64 0, .bool false]) ∧ Upd w g t cs o (({ s with threw := s.threw + 1 } : Ln).note 4).enc w' := by
  have h0 : w.cell? ⟨g, o, none⟩ = some (.int .u32 s.age) := H.cell_is (k := 0) rfl
  have h1 : w.cell? ⟨g, o + 1, none⟩ = some (.int .i64 s.jump) := H.cell_is rfl
  have h2 : w.cell? ⟨g, o + 2, none⟩ = some (.int .i64 s.throw) := H.cell_is rfl
  have h3 : w.cell? ⟨g, o + 3, none⟩ = some (.int .i64 s.most) := H.cell_is rfl
  have h7 : w.cell? ⟨g, o + 7, none⟩ = some (.int .i64 s.high) := H.cell_is rfl
  have h8 : w.cell? ⟨g, o + 8, none⟩ = some (.int .u32 s.since) := H.cell_is rfl
  have h9 : w.cell? ⟨g, o + 9, none⟩ = some (.bool s.has) := H.cell_is rfl
  have h10 : w.cell? ⟨g, o + 10, none⟩ = some (.int .i64 s.last) := H.cell_is rfl
  have h11 : w.cell? ⟨g, o + 11, none⟩ = some (.bool s.based) := H.cell_is rfl
  have h12 : w.cell? ⟨g, o + 12, none⟩ = some (.int .i64 s.threw) := H.cell_is rfl
  have f10 : w.frozen? ⟨g, o + 10, none⟩ = false := H.frozen _
  have f11 : w.frozen? ⟨g, o + 11, none⟩ = false := H.frozen _
  have f12 : w.frozen? ⟨g, o + 12, none⟩ = false := H.frozen _
  have hg := H.lt
  have HH := Lib.hid H
  clear H
  rw [c3] at h9
  rw [c5] at h11
  clear c3 c5
  unfold frm
  go_enter Try.func94, Try.ntmps94
  go_wp2_with fail
  go_quiet (fail)
  go_wp2_with fail
  all_goals
    go_quiet (fail)
    go_wp2_with fail
    refine (note_upd g o t cs { s with threw := s.threw + 1 } 4 _ (throw_done HH.out _ _) (by decide) (by decide)).mono ?_
    rintro e w' ⟨rfl, hu⟩
    go_wp2
    go_ret3
    exact ⟨rfl, hu⟩

set_option maxHeartbeats 400000 in
theorem radar_h2 (g o : Nat) (t : TypeId) (cs : Array Value) (s : Ln) (kind seq time a b c : Int) (w : World) (H : Hold w g t cs o s.enc) (ha : -2147483648 ≤ a) (hb : a < 2147483648)
    (c1 : 0 ≤ a) (c2 : a ≤ s.most) (c3 : s.has = true) (c4 : (time - s.since) % 4294967296 ≤ s.age) (i1 : -2147483648 ≤ s.high) (i2 : s.high < 2147483648) (i3 : -4294967296 ≤ s.last) (i4 : s.last ≤ 4294967296) (i5 : 1 ≤ s.jump) (i6 : 0 ≤ s.threw) (i7 : s.threw ≤ 1000) (c5 : s.based = true) (c6 : s.high - a - s.last < -s.jump) (c7 : s.throw ≤ s.threw) :
    Calls Try.prog 94 #[.pointer (some ⟨g, o, none⟩), frm kind seq time a b c] w fun e w' => e = .returned (.tuple #[.int .i64 5, .int .i64 (s.high - a), .bool true]) ∧ Upd w g t cs o (({ s with last := s.high - a, based := true, threw := 0 } : Ln).note 5).enc w' := by
  have h0 : w.cell? ⟨g, o, none⟩ = some (.int .u32 s.age) := H.cell_is (k := 0) rfl
  have h1 : w.cell? ⟨g, o + 1, none⟩ = some (.int .i64 s.jump) := H.cell_is rfl
  have h2 : w.cell? ⟨g, o + 2, none⟩ = some (.int .i64 s.throw) := H.cell_is rfl
  have h3 : w.cell? ⟨g, o + 3, none⟩ = some (.int .i64 s.most) := H.cell_is rfl
  have h7 : w.cell? ⟨g, o + 7, none⟩ = some (.int .i64 s.high) := H.cell_is rfl
  have h8 : w.cell? ⟨g, o + 8, none⟩ = some (.int .u32 s.since) := H.cell_is rfl
  have h9 : w.cell? ⟨g, o + 9, none⟩ = some (.bool s.has) := H.cell_is rfl
  have h10 : w.cell? ⟨g, o + 10, none⟩ = some (.int .i64 s.last) := H.cell_is rfl
  have h11 : w.cell? ⟨g, o + 11, none⟩ = some (.bool s.based) := H.cell_is rfl
  have h12 : w.cell? ⟨g, o + 12, none⟩ = some (.int .i64 s.threw) := H.cell_is rfl
  have f10 : w.frozen? ⟨g, o + 10, none⟩ = false := H.frozen _
  have f11 : w.frozen? ⟨g, o + 11, none⟩ = false := H.frozen _
  have f12 : w.frozen? ⟨g, o + 12, none⟩ = false := H.frozen _
  have hg := H.lt
  have HH := Lib.hid H
  clear H
  rw [c3] at h9
  rw [c5] at h11
  clear c3 c5
  unfold frm
  go_enter Try.func94, Try.ntmps94
  go_wp2_with fail
  go_quiet (fail)
  go_wp2_with fail
  all_goals
    go_quiet (fail)
    go_wp2_with fail
    refine (note_upd g o t cs { s with last := s.high - a, based := true, threw := 0 } 5 _ (radar_done HH.out _ _ _) (by decide) (by decide)).mono ?_
    rintro e w' ⟨rfl, hu⟩
    go_wp2
    go_ret3
    exact ⟨rfl, hu⟩

end Go.Proofs.Ytpmomimaihjmjaa
