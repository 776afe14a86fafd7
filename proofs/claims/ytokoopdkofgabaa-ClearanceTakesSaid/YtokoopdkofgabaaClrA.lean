/- Walks of package clearance: each function computes what its Lean twin says. -/
import Derived.Test.YtokoopdkofgabaaMem
import Derived.WalkLawsBesides
import Derived.BigQuiet
import Derived.Deep.QuietTactic
namespace Go.Proofs.Ytokoopdkofgabaa
open Go.RowKit

def newerB (a b : Int) : Bool := (a != b) && decide ((a - b) % 65536 < 32768)

set_option maxHeartbeats 400000 in
theorem newer_any (a b : Int) (w : World) :
    Calls Try.prog 101 #[.int .u16 a, .int .u16 b] w fun e w' => e = .returned (.bool (newerB a b)) ∧ w = w' := by
  go_enter Try.func101, Try.ntmps101
  go_wp2
  · go_ret
    exact ⟨by simp_all [newerB, IntKind.wrap_u16], rfl⟩
  · go_ret
    exact ⟨by simp_all [newerB, IntKind.wrap_u16], rfl⟩

/-- A line: rules, the last frame, the last height, the last ground, how many were thrown away, and the counts. -/
structure Ln where
  age : Int
  jump : Int
  throw : Int
  most : Int
  any : Bool
  seq : Int
  time : Int
  high : Int
  since : Int
  has : Bool
  last : Int
  based : Bool
  threw : Int
  c0 : Int
  c1 : Int
  c2 : Int
  c3 : Int
  c4 : Int
  c5 : Int
  c6 : Int

def Ln.enc (s : Ln) : List Value := [.int .u32 s.age, .int .i64 s.jump, .int .i64 s.throw, .int .i64 s.most, .bool s.any, .int .u16 s.seq, .int .u32 s.time, .int .i64 s.high, .int .u32 s.since, .bool s.has,
  .int .i64 s.last, .bool s.based, .int .i64 s.threw, .int .i64 s.c0, .int .i64 s.c1, .int .i64 s.c2, .int .i64 s.c3, .int .i64 s.c4, .int .i64 s.c5, .int .i64 s.c6]

def Ln.counts (s : Ln) : List Int := [s.c0, s.c1, s.c2, s.c3, s.c4, s.c5, s.c6]

def Ln.note (s : Ln) (k : Int) : Ln :=
  if k = 0 then { s with c0 := wrap64 (s.c0 + 1) } else if k = 1 then { s with c1 := wrap64 (s.c1 + 1) } else if k = 2 then { s with c2 := wrap64 (s.c2 + 1) } else if k = 3 then { s with c3 := wrap64 (s.c3 + 1) }
  else if k = 4 then { s with c4 := wrap64 (s.c4 + 1) } else if k = 5 then { s with c5 := wrap64 (s.c5 + 1) } else { s with c6 := wrap64 (s.c6 + 1) }

theorem note_enc (s : Ln) (k : Nat) (hk : k ≤ 6) : ∃ n, s.enc[13 + k]? = some (.int .i64 n) ∧ s.enc.set (13 + k) (.int .i64 (wrap64 (n + 1))) = (s.note k).enc := by
  obtain rfl | rfl | rfl | rfl | rfl | rfl | rfl : k = 0 ∨ k = 1 ∨ k = 2 ∨ k = 3 ∨ k = 4 ∨ k = 5 ∨ k = 6 := by omega
  all_goals exact ⟨_, rfl, rfl⟩

set_option maxHeartbeats 400000 in
theorem note_any (g o : Nat) (t : TypeId) (cs : Array Value) (s : Ln) (k : Int) (w : World) (H : Hold w g t cs o s.enc) (h0 : 0 ≤ k) (h6 : k ≤ 6) :
    Calls Try.prog 65 #[.pointer (some ⟨g, o, none⟩), .int .i64 k] w fun e w' => e = .returned (.int .i64 k) ∧ Upd w g t cs o (s.note k).enc w' := by
  obtain ⟨k, rfl⟩ := Int.eq_ofNat_of_zero_le h0
  obtain ⟨n, hn, hs⟩ := note_enc s k (by omega)
  have hl : 13 + k < s.enc.length := (List.getElem?_eq_some_iff.1 hn).1
  have hc : w.cell? ⟨g, o + 13 + k, none⟩ = some (.int .i64 n) := by rw [Nat.add_assoc]; exact H.cell_is hn
  have hf : w.frozen? ⟨g, o + 13 + k, none⟩ = false := H.frozen _
  have hk2 : (k : Int) < 7 := by omega
  have fin : Hid (Upd w g t cs o (s.note k).enc (w.drew.setCell ⟨g, o + 13 + k, none⟩ (.int .i64 (wrap64 (n + 1))))) := by
    rw [← hs, Nat.add_assoc]
    exact (Upd.start H).drew.set_ (13 + k) _ hl
  clear H hn hs hl h0 h6
  go_enter Try.func65, Try.ntmps65
  go_wp2
  go_region
  go_wp2

  go_ret
  exact ⟨rfl, fin.out⟩

/-- A frame as a value. -/
def frm (kind seq time a b c : Int) : Value := .agg #[.int .i64 kind, .int .u16 seq, .int .u32 time, .int .i32 a, .int .i32 b, .int .i32 c]

def Ln.late (s : Ln) (seq time : Int) : Bool := s.any && (!(newerB seq s.seq) || decide (time < s.time))
def Ln.order (s : Ln) (seq time : Int) : Ln := if s.late seq time then s else { s with any := true, seq := seq, time := time }


theorem order_done {w : World} {g : Nat} {t : TypeId} {cs : Array Value} {o : Nat} {s : Ln} (H : Hold w g t cs o s.enc) (seq time : Int) (ob : Obj) (n : Nat) :
    Upd w g t cs o (Ln.enc { s with any := true, seq := seq, time := time }) (((((w.alloc ob).drewN n).setCell ⟨g, o + 4, none⟩ (.bool true)).setCell ⟨g, o + 5, none⟩ (.int .u16 seq)).setCell ⟨g, o + 6, none⟩ (.int .u32 time)) :=
  ((((Upd.start H).alloc ob).drewN n).set_ 4 (.bool true) (by simp [Ln.enc]) |>.set_ 5 (.int .u16 seq) (by simp [Ln.enc]) |>.set_ 6 (.int .u32 time) (by simp [Ln.enc]))

set_option maxHeartbeats 400000 in
theorem order_a (g o : Nat) (t : TypeId) (cs : Array Value) (s : Ln) (kind seq time a b c : Int) (w : World) (H : Hold w g t cs o s.enc) (hany : s.any = false) :
    Calls Try.prog 66 #[.pointer (some ⟨g, o, none⟩), frm kind seq time a b c] w fun e w' => e = .returned (.bool (!(s.late seq time))) ∧ Upd w g t cs o (s.order seq time).enc w' := by
  have h4 : w.cell? ⟨g, o + 4, none⟩ = some (.bool s.any) := H.cell_is rfl
  have h5 : w.cell? ⟨g, o + 5, none⟩ = some (.int .u16 s.seq) := H.cell_is rfl
  have h6 : w.cell? ⟨g, o + 6, none⟩ = some (.int .u32 s.time) := H.cell_is rfl
  have f4 : w.frozen? ⟨g, o + 4, none⟩ = false := H.frozen _
  have f5 : w.frozen? ⟨g, o + 5, none⟩ = false := H.frozen _
  have f6 : w.frozen? ⟨g, o + 6, none⟩ = false := H.frozen _
  have hg := H.lt
  have HH := Lib.hid H
  unfold frm
  have e1 : s.late seq time = false := by simp [Ln.late, hany]
  have e2 : s.order seq time = { s with any := true, seq := seq, time := time } := by simp [Ln.order, e1]
  rw [e1, e2]
  rw [hany] at h4
  clear H hany e1 e2
  go_enter Try.func66, Try.ntmps66
  go_wp2
  go_quiet (fail)
  go_wp2
  go_region
  go_wp2
  go_ret
  exact ⟨rfl, order_done HH.out _ _ _ _⟩

set_option maxHeartbeats 400000 in
theorem order_b (g o : Nat) (t : TypeId) (cs : Array Value) (s : Ln) (kind seq time a b c : Int) (w : World) (H : Hold w g t cs o s.enc) (hany : s.any = true) (hn : newerB seq s.seq = false) :
    Calls Try.prog 66 #[.pointer (some ⟨g, o, none⟩), frm kind seq time a b c] w fun e w' => e = .returned (.bool (!(s.late seq time))) ∧ Upd w g t cs o (s.order seq time).enc w' := by
  have h4 : w.cell? ⟨g, o + 4, none⟩ = some (.bool s.any) := H.cell_is rfl
  have h5 : w.cell? ⟨g, o + 5, none⟩ = some (.int .u16 s.seq) := H.cell_is rfl
  have h6 : w.cell? ⟨g, o + 6, none⟩ = some (.int .u32 s.time) := H.cell_is rfl
  have f4 : w.frozen? ⟨g, o + 4, none⟩ = false := H.frozen _
  have f5 : w.frozen? ⟨g, o + 5, none⟩ = false := H.frozen _
  have f6 : w.frozen? ⟨g, o + 6, none⟩ = false := H.frozen _
  have hg := H.lt
  have HH := Lib.hid H
  unfold frm
  have e1 : s.late seq time = true := by simp [Ln.late, hany, hn]
  have e2 : s.order seq time = s := by simp [Ln.order, e1]
  rw [e1, e2]
  rw [hany] at h4
  clear H hany e1 e2
  go_enter Try.func66, Try.ntmps66
  go_wp2
  go_quiet ((go_at_call 101; exact quiet_left (newer_any _ _ _)))
  go_wp2
  go_ret
  exact ⟨rfl, ((Upd.start HH.out).alloc _).drewN _⟩

set_option maxHeartbeats 400000 in
theorem order_c (g o : Nat) (t : TypeId) (cs : Array Value) (s : Ln) (kind seq time a b c : Int) (w : World) (H : Hold w g t cs o s.enc) (hany : s.any = true) (hn : newerB seq s.seq = true) (ht : decide (time < s.time) = false) :
    Calls Try.prog 66 #[.pointer (some ⟨g, o, none⟩), frm kind seq time a b c] w fun e w' => e = .returned (.bool (!(s.late seq time))) ∧ Upd w g t cs o (s.order seq time).enc w' := by
  have h4 : w.cell? ⟨g, o + 4, none⟩ = some (.bool s.any) := H.cell_is rfl
  have h5 : w.cell? ⟨g, o + 5, none⟩ = some (.int .u16 s.seq) := H.cell_is rfl
  have h6 : w.cell? ⟨g, o + 6, none⟩ = some (.int .u32 s.time) := H.cell_is rfl
  have f4 : w.frozen? ⟨g, o + 4, none⟩ = false := H.frozen _
  have f5 : w.frozen? ⟨g, o + 5, none⟩ = false := H.frozen _
  have f6 : w.frozen? ⟨g, o + 6, none⟩ = false := H.frozen _
  have hg := H.lt
  have HH := Lib.hid H
  unfold frm
  have e1 : s.late seq time = false := by simp [Ln.late, hany, hn, ht]
  have e2 : s.order seq time = { s with any := true, seq := seq, time := time } := by simp [Ln.order, e1]
  rw [e1, e2]
  rw [hany] at h4
  clear H hany e1 e2
  go_enter Try.func66, Try.ntmps66
  go_wp2
  go_quiet ((go_at_call 101; exact quiet_left (newer_any _ _ _)))
  go_wp2
  go_region
  go_wp2
  go_ret
  exact ⟨rfl, order_done HH.out _ _ _ _⟩

set_option maxHeartbeats 400000 in
theorem order_d (g o : Nat) (t : TypeId) (cs : Array Value) (s : Ln) (kind seq time a b c : Int) (w : World) (H : Hold w g t cs o s.enc) (hany : s.any = true) (hn : newerB seq s.seq = true) (ht : decide (time < s.time) = true) :
    Calls Try.prog 66 #[.pointer (some ⟨g, o, none⟩), frm kind seq time a b c] w fun e w' => e = .returned (.bool (!(s.late seq time))) ∧ Upd w g t cs o (s.order seq time).enc w' := by
  have h4 : w.cell? ⟨g, o + 4, none⟩ = some (.bool s.any) := H.cell_is rfl
  have h5 : w.cell? ⟨g, o + 5, none⟩ = some (.int .u16 s.seq) := H.cell_is rfl
  have h6 : w.cell? ⟨g, o + 6, none⟩ = some (.int .u32 s.time) := H.cell_is rfl
  have f4 : w.frozen? ⟨g, o + 4, none⟩ = false := H.frozen _
  have f5 : w.frozen? ⟨g, o + 5, none⟩ = false := H.frozen _
  have f6 : w.frozen? ⟨g, o + 6, none⟩ = false := H.frozen _
  have hg := H.lt
  have HH := Lib.hid H
  unfold frm
  have e1 : s.late seq time = true := by simp [Ln.late, hany, hn, ht]
  have e2 : s.order seq time = s := by simp [Ln.order, e1]
  rw [e1, e2]
  rw [hany] at h4
  clear H hany e1 e2
  go_enter Try.func66, Try.ntmps66
  go_wp2
  go_quiet ((go_at_call 101; exact quiet_left (newer_any _ _ _)))
  go_wp2
  go_ret
  exact ⟨rfl, ((Upd.start HH.out).alloc _).drewN _⟩

theorem order_any (g o : Nat) (t : TypeId) (cs : Array Value) (s : Ln) (kind seq time a b c : Int) (w : World) (H : Hold w g t cs o s.enc) :
    Calls Try.prog 66 #[.pointer (some ⟨g, o, none⟩), frm kind seq time a b c] w fun e w' => e = .returned (.bool (!(s.late seq time))) ∧ Upd w g t cs o (s.order seq time).enc w' := by
  rcases hany : s.any with _ | _
  · exact order_a g o t cs s kind seq time a b c w H hany
  · rcases hn : newerB seq s.seq with _ | _
    · exact order_b g o t cs s kind seq time a b c w H hany hn
    · rcases ht : decide (time < s.time) with _ | _
      · exact order_c g o t cs s kind seq time a b c w H hany hn ht
      · exact order_d g o t cs s kind seq time a b c w H hany hn ht
end Go.Proofs.Ytokoopdkofgabaa
