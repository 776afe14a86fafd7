import Derived.Laws.ResultCell
import Derived.Laws.Rows
import Derived.Laws.Tables
import Derived.Test.YtpmomimaihjmjaaMB15
set_option linter.unusedVariables false
set_option linter.unusedSimpArgs false
/- Walks of package clearance: Take, a theorem for each way through it; New, Check, Count. -/
namespace Go.Proofs.Ytpmomimaihjmjaa
open Go.RowKit

/-- What the code keeps in bounds. -/
def Ln.ok (s : Ln) : Prop := -2147483648 ≤ s.high ∧ s.high < 2147483648 ∧ -4294967296 ≤ s.last ∧ s.last ≤ 4294967296 ∧ 1 ≤ s.jump ∧ 0 ≤ s.threw ∧ s.threw ≤ 1000

def Ln.radar (s : Ln) (time a : Int) : Ln × Int × Int × Bool :=
  if a < 0 ∨ s.most < a then (s.note 2, 2, 0, false)
  else if s.has = false ∨ s.age < (time - s.since) % 4294967296 then (s.note 3, 3, 0, false)
  else if s.based = true ∧ (s.jump < s.high - a - s.last ∨ s.high - a - s.last < -s.jump) then
    if s.threw < s.throw then (({ s with threw := s.threw + 1 } : Ln).note 4, 4, 0, false)
    else (({ s with last := s.high - a, based := true, threw := 0 } : Ln).note 5, 5, s.high - a, true)
  else (({ s with last := s.high - a, based := true, threw := 0 } : Ln).note 0, 0, s.high - a, true)

/-- The three results of a call, and the line behind it. -/
def TookR (w : World) (g : Nat) (t : TypeId) (cs : Array Value) (o : Nat) (r : Ln × Int × Int × Bool) (e : Ending) (w' : World) : Prop :=
  e = .returned (.tuple #[.int .i64 r.2.1, .int .i64 r.2.2.1, .bool r.2.2.2]) ∧ Upd w g t cs o r.1.enc w'

theorem radar_any (g o : Nat) (t : TypeId) (cs : Array Value) (s : Ln) (kind seq time a b c : Int) (w : World) (H : Hold w g t cs o s.enc) (hok : s.ok) (ha : -2147483648 ≤ a) (hb : a < 2147483648) :
    Calls Try.prog 94 #[.pointer (some ⟨g, o, none⟩), frm kind seq time a b c] w (TookR w g t cs o (s.radar time a)) := by
  obtain ⟨i1, i2, i3, i4, i5, i6, i7⟩ := hok
  unfold TookR Ln.radar
  by_cases c1 : a < 0
  · rw [if_pos (.inl c1)]; exact radar_a g o t cs s kind seq time a b c w H ha hb c1
  by_cases c2 : s.most < a
  · rw [if_pos (.inr c2)]; exact radar_b g o t cs s kind seq time a b c w H ha hb (by omega) c2
  rw [if_neg (by omega)]
  rcases (Bool.eq_false_or_eq_true s.has).symm with c3 | c3
  · rw [if_pos (.inl c3)]; exact radar_c0 g o t cs s kind seq time a b c w H ha hb (by omega) (by omega) c3
  by_cases c4 : s.age < (time - s.since) % 4294967296
  · rw [if_pos (.inr c4)]; exact radar_d g o t cs s kind seq time a b c w H ha hb (by omega) (by omega) c3 c4
  rw [if_neg (by simp [c3]; omega)]
  rcases (Bool.eq_false_or_eq_true s.based).symm with c5 | c5
  · rw [if_neg (by simp [c5])]; exact radar_e g o t cs s kind seq time a b c w H ha hb (by omega) (by omega) c3 (by omega) i1 i2 i3 i4 i5 i6 i7 c5
  by_cases c6 : s.jump < s.high - a - s.last
  · rw [if_pos ⟨c5, .inl c6⟩]
    by_cases c7 : s.threw < s.throw
    · rw [if_pos c7]; exact radar_g g o t cs s kind seq time a b c w H ha hb (by omega) (by omega) c3 (by omega) i1 i2 i3 i4 i5 i6 i7 c5 c6 c7
    · rw [if_neg c7]; exact radar_g2 g o t cs s kind seq time a b c w H ha hb (by omega) (by omega) c3 (by omega) i1 i2 i3 i4 i5 i6 i7 c5 c6 (by omega)
  by_cases c8 : s.high - a - s.last < -s.jump
  · rw [if_pos ⟨c5, .inr c8⟩]
    by_cases c7 : s.threw < s.throw
    · rw [if_pos c7]; exact radar_h g o t cs s kind seq time a b c w H ha hb (by omega) (by omega) c3 (by omega) i1 i2 i3 i4 i5 i6 i7 c5 c8 c7
    · rw [if_neg c7]; exact radar_h2 g o t cs s kind seq time a b c w H ha hb (by omega) (by omega) c3 (by omega) i1 i2 i3 i4 i5 i6 i7 c5 c8 (by omega)
  rw [if_neg (by omega)]
  exact radar_f g o t cs s kind seq time a b c w H ha hb (by omega) (by omega) c3 (by omega) i1 i2 i3 i4 i5 i6 i7 c5 (by omega) (by omega)

def Ln.take (s : Ln) (kind seq time a : Int) : Ln × Int × Int × Bool :=
  if kind < 1 ∨ 5 < kind then (s.note 2, 2, 0, false)
  else if s.late seq time then (s.note 1, 1, 0, false)
  else if kind = 3 then (({ s.order seq time with high := a, since := time, has := true } : Ln).note 0, 0, 0, false)
  else if kind = 2 then (s.order seq time).radar time a
  else ((s.order seq time).note 6, 6, 0, false)

theorem order_ok (s : Ln) (seq time : Int) (h : s.ok) : (s.order seq time).ok := by
  unfold Ln.order; split <;> exact h

theorem order_upd {w0 : World} (g o : Nat) (t : TypeId) (cs : Array Value) (s : Ln) (kind seq time a b c : Int) (w : World) (U : Upd w0 g t cs o s.enc w) :
    Calls Try.prog 93 #[.pointer (some ⟨g, o, none⟩), frm kind seq time a b c] w fun e w' => e = .returned (.bool (!(s.late seq time))) ∧ Upd w0 g t cs o (s.order seq time).enc w' :=
  (order_any g o t cs s kind seq time a b c w U.1).mono fun _ _ ⟨he, hu⟩ => ⟨he, U.trans hu⟩

theorem radar_upd {w0 : World} (g o : Nat) (t : TypeId) (cs : Array Value) (s : Ln) (kind seq time a b c : Int) (w : World) (U : Upd w0 g t cs o s.enc w) (hok : s.ok) (ha : -2147483648 ≤ a) (hb : a < 2147483648) :
    Calls Try.prog 94 #[.pointer (some ⟨g, o, none⟩), frm kind seq time a b c] w (TookR w0 g t cs o (s.radar time a)) :=
  (radar_any g o t cs s kind seq time a b c w U.1 hok ha hb).mono fun _ _ ⟨he, hu⟩ => ⟨he, U.trans hu⟩

set_option maxHeartbeats 400000 in
theorem take_a (g o : Nat) (t : TypeId) (cs : Array Value) (s : Ln) (kind seq time a b c : Int) (w : World) (H : Hold w g t cs o s.enc) (hok : s.ok) (ha : -2147483648 ≤ a) (hb : a < 2147483648)
    (c1 : kind < 1) :
    Calls Try.prog 56 #[.pointer (some ⟨g, o, none⟩), frm kind seq time a b c] w (TookR w g t cs o (s.note 2, 2, 0, false)) := by
  have hg := H.lt
  have HH := Lib.hid H
  have HO := Lib.hid hok
  clear H hok
  unfold frm
  go_enter Try.func56, Try.ntmps56
  go_wp2_with fail
  refine (note_upd g o t cs s 2 _ ((Upd.start HH.out).alloc _) (by decide) (by decide)).mono ?_
  rintro e w' ⟨rfl, hu'⟩
  go_wp2
  go_ret3
  exact ⟨rfl, hu'⟩

set_option maxHeartbeats 400000 in
theorem take_b (g o : Nat) (t : TypeId) (cs : Array Value) (s : Ln) (kind seq time a b c : Int) (w : World) (H : Hold w g t cs o s.enc) (hok : s.ok) (ha : -2147483648 ≤ a) (hb : a < 2147483648)
    (c1 : 5 < kind) :
    Calls Try.prog 56 #[.pointer (some ⟨g, o, none⟩), frm kind seq time a b c] w (TookR w g t cs o (s.note 2, 2, 0, false)) := by
  have hg := H.lt
  have HH := Lib.hid H
  have HO := Lib.hid hok
  clear H hok
  unfold frm
  go_enter Try.func56, Try.ntmps56
  go_wp2_with fail
  refine (note_upd g o t cs s 2 _ ((Upd.start HH.out).alloc _) (by decide) (by decide)).mono ?_
  rintro e w' ⟨rfl, hu'⟩
  go_wp2
  go_ret3
  exact ⟨rfl, hu'⟩

set_option maxHeartbeats 400000 in
theorem take_c (g o : Nat) (t : TypeId) (cs : Array Value) (s : Ln) (kind seq time a b c : Int) (w : World) (H : Hold w g t cs o s.enc) (hok : s.ok) (ha : -2147483648 ≤ a) (hb : a < 2147483648)
    (c1 : 1 ≤ kind) (c2 : kind ≤ 5) (c3 : s.late seq time = true) :
    Calls Try.prog 56 #[.pointer (some ⟨g, o, none⟩), frm kind seq time a b c] w (TookR w g t cs o (s.note 1, 1, 0, false)) := by
  have hg := H.lt
  have HH := Lib.hid H
  have e2 : s.order seq time = s := by simp [Ln.order, c3]
  have E2 := Lib.hid e2
  have HL := Lib.hid c3
  clear c3 e2
  have HO := Lib.hid hok
  clear H hok
  unfold frm
  go_enter Try.func56, Try.ntmps56
  go_wp2_with fail
  refine (order_upd g o t cs s kind seq time a b c _ ((Upd.start HH.out).alloc _)).mono ?_
  rintro e w1 ⟨rfl, hu⟩
  rw [HL.out]
  rw [E2.out] at hu
  go_wp2_with fail
  refine (note_upd g o t cs s 1 _ hu (by decide) (by decide)).mono ?_
  rintro e w' ⟨rfl, hu'⟩
  go_wp2
  go_ret3
  exact ⟨rfl, hu'⟩

theorem high_done {w0 w : World} {g : Nat} {t : TypeId} {cs : Array Value} {o : Nat} {s : Ln} (H : Upd w0 g t cs o s.enc w) (a time : Int) (n : Nat) :
    Upd w0 g t cs o (Ln.enc { s with high := a, since := time, has := true }) ((((w.drewN n).setCell ⟨g, o + 7, none⟩ (.int .i64 a)).setCell ⟨g, o + 8, none⟩ (.int .u32 time)).setCell ⟨g, o + 9, none⟩ (.bool true)) :=
  ((H.drewN n).set_ 7 (.int .i64 a) (by simp [Ln.enc]) |>.set_ 8 (.int .u32 time) (by simp [Ln.enc]) |>.set_ 9 (.bool true) (by simp [Ln.enc]))

theorem upd_from {w : World} {g : Nat} {t : TypeId} {cs : Array Value} {o : Nat} {ob : Obj} {xs : List Value} {w1 : World} (hu : Upd (w.alloc ob) g t cs o xs w1) : Upd w g t cs o xs w1 :=
  ⟨hu.1, only_trans (World.grownBy_alloc w ob _) hu.2⟩

theorem box_kept {w : World} {g : Nat} {t e : TypeId} {cs : Array Value} {o : Nat} {bs : Array Value} {xs : List Value} {w1 : World} (hu : Upd (w.alloc (.cells bs e)) g t cs o xs w1) (hg : g < w.heap.size) (k : Nat) (v : Value) (hv : bs[k]? = some v) :
    w1.cell? ⟨w.heap.size, k, none⟩ = some v := by
  refine hu.2.cell (a := ⟨w.heap.size, k, none⟩) ?_ (by simp; omega)
  exact (cell_of_row _ _ _ _ _ _ (heap_alloc_new w (.cells bs e))).trans hv

set_option maxHeartbeats 400000 in
theorem take_d (g o : Nat) (t : TypeId) (cs : Array Value) (s : Ln) (kind seq time a b c : Int) (w : World) (H : Hold w g t cs o s.enc) (hok : s.ok) (ha : -2147483648 ≤ a) (hb : a < 2147483648)
    (c3 : s.late seq time = false) (c1 : kind = 3) :
    Calls Try.prog 56 #[.pointer (some ⟨g, o, none⟩), frm kind seq time a b c] w (TookR w g t cs o (({ s.order seq time with high := a, since := time, has := true } : Ln).note 0, 0, 0, false)) := by
  have hg := H.lt
  have HH := Lib.hid H
  subst c1
  have HL := Lib.hid c3
  clear c3
  have HO := Lib.hid hok
  clear H hok
  unfold frm
  go_enter Try.func56, Try.ntmps56
  go_wp2_with fail
  refine (order_any g o t cs s 3 seq time a b c _ (HH.out.alloc _)).mono ?_
  rintro e w1 ⟨rfl, hu⟩
  rw [HL.out]
  have b0 : w1.cell? ⟨w.heap.size, 0, none⟩ = some (.int .i64 3) := box_kept hu hg 0 _ rfl
  have b1 : w1.cell? ⟨w.heap.size, 1, none⟩ = some (.int .u16 seq) := box_kept hu hg 1 _ rfl
  have b2 : w1.cell? ⟨w.heap.size, 2, none⟩ = some (.int .u32 time) := box_kept hu hg 2 _ rfl
  have b3 : w1.cell? ⟨w.heap.size, 3, none⟩ = some (.int .i32 a) := box_kept hu hg 3 _ rfl
  have b4 : w1.cell? ⟨w.heap.size, 4, none⟩ = some (.int .i32 b) := box_kept hu hg 4 _ rfl
  have b5 : w1.cell? ⟨w.heap.size, 5, none⟩ = some (.int .i32 c) := box_kept hu hg 5 _ rfl
  have HU := Lib.hid (upd_from hu)
  have HK := Lib.hid (order_ok s seq time HO.out)
  generalize s.order seq time = s1 at *
  have H1 := hu.1
  have h7 : w1.cell? ⟨g, o + 7, none⟩ = some (.int .i64 s1.high) := H1.cell_is rfl
  have h8 : w1.cell? ⟨g, o + 8, none⟩ = some (.int .u32 s1.since) := H1.cell_is rfl
  have h9 : w1.cell? ⟨g, o + 9, none⟩ = some (.bool s1.has) := H1.cell_is rfl
  have f7 : w1.frozen? ⟨g, o + 7, none⟩ = false := H1.frozen _
  have f8 : w1.frozen? ⟨g, o + 8, none⟩ = false := H1.frozen _
  have f9 : w1.frozen? ⟨g, o + 9, none⟩ = false := H1.frozen _
  clear hu H1
  go_wp2_with fail
  go_region
  all_goals go_wp2_with fail
  refine (note_upd g o t cs { s1 with high := a, since := time, has := true } 0 _ (high_done HU.out _ _ _) (by decide) (by decide)).mono ?_
  rintro e w' ⟨rfl, hu'⟩
  go_wp2
  go_ret3
  exact ⟨rfl, hu'⟩

set_option maxHeartbeats 400000 in
theorem take_e (g o : Nat) (t : TypeId) (cs : Array Value) (s : Ln) (kind seq time a b c : Int) (w : World) (H : Hold w g t cs o s.enc) (hok : s.ok) (ha : -2147483648 ≤ a) (hb : a < 2147483648)
    (c3 : s.late seq time = false) (c1 : kind = 2) :
    Calls Try.prog 56 #[.pointer (some ⟨g, o, none⟩), frm kind seq time a b c] w (TookR w g t cs o ((s.order seq time).radar time a)) := by
  have hg := H.lt
  have HH := Lib.hid H
  subst c1
  have HL := Lib.hid c3
  clear c3
  have HO := Lib.hid hok
  clear H hok
  unfold frm
  go_enter Try.func56, Try.ntmps56
  go_wp2_with fail
  refine (order_any g o t cs s 2 seq time a b c _ (HH.out.alloc _)).mono ?_
  rintro e w1 ⟨rfl, hu⟩
  rw [HL.out]
  have b0 : w1.cell? ⟨w.heap.size, 0, none⟩ = some (.int .i64 2) := box_kept hu hg 0 _ rfl
  have b1 : w1.cell? ⟨w.heap.size, 1, none⟩ = some (.int .u16 seq) := box_kept hu hg 1 _ rfl
  have b2 : w1.cell? ⟨w.heap.size, 2, none⟩ = some (.int .u32 time) := box_kept hu hg 2 _ rfl
  have b3 : w1.cell? ⟨w.heap.size, 3, none⟩ = some (.int .i32 a) := box_kept hu hg 3 _ rfl
  have b4 : w1.cell? ⟨w.heap.size, 4, none⟩ = some (.int .i32 b) := box_kept hu hg 4 _ rfl
  have b5 : w1.cell? ⟨w.heap.size, 5, none⟩ = some (.int .i32 c) := box_kept hu hg 5 _ rfl
  have HU := Lib.hid (upd_from hu)
  have HK := Lib.hid (order_ok s seq time HO.out)
  generalize s.order seq time = s1 at *
  have H1 := hu.1
  have h7 : w1.cell? ⟨g, o + 7, none⟩ = some (.int .i64 s1.high) := H1.cell_is rfl
  have h8 : w1.cell? ⟨g, o + 8, none⟩ = some (.int .u32 s1.since) := H1.cell_is rfl
  have h9 : w1.cell? ⟨g, o + 9, none⟩ = some (.bool s1.has) := H1.cell_is rfl
  have f7 : w1.frozen? ⟨g, o + 7, none⟩ = false := H1.frozen _
  have f8 : w1.frozen? ⟨g, o + 8, none⟩ = false := H1.frozen _
  have f9 : w1.frozen? ⟨g, o + 9, none⟩ = false := H1.frozen _
  clear hu H1
  go_wp2_with fail
  refine (radar_upd g o t cs s1 2 seq time a b c _ HU.out HK.out ha hb).mono ?_
  rintro e w2 ⟨rfl, hu'⟩
  go_wp2
  go_ret3
  exact ⟨rfl, hu'⟩

set_option maxHeartbeats 400000 in
theorem take_f (g o : Nat) (t : TypeId) (cs : Array Value) (s : Ln) (kind seq time a b c : Int) (w : World) (H : Hold w g t cs o s.enc) (hok : s.ok) (ha : -2147483648 ≤ a) (hb : a < 2147483648)
    (c3 : s.late seq time = false) (c1 : 1 ≤ kind) (c2 : kind ≤ 5) (c4 : kind ≠ 2) (c5 : kind ≠ 3) :
    Calls Try.prog 56 #[.pointer (some ⟨g, o, none⟩), frm kind seq time a b c] w (TookR w g t cs o ((s.order seq time).note 6, 6, 0, false)) := by
  have hg := H.lt
  have HH := Lib.hid H
  have HL := Lib.hid c3
  clear c3
  have d1 : (kind == 3) = false := by simpa using c5
  have d2 : (kind == 2) = false := by simpa using c4
  have HO := Lib.hid hok
  clear H hok
  unfold frm
  go_enter Try.func56, Try.ntmps56
  go_wp2_with fail
  refine (order_any g o t cs s kind seq time a b c _ (HH.out.alloc _)).mono ?_
  rintro e w1 ⟨rfl, hu⟩
  rw [HL.out]
  have b0 : w1.cell? ⟨w.heap.size, 0, none⟩ = some (.int .i64 kind) := box_kept hu hg 0 _ rfl
  have b1 : w1.cell? ⟨w.heap.size, 1, none⟩ = some (.int .u16 seq) := box_kept hu hg 1 _ rfl
  have b2 : w1.cell? ⟨w.heap.size, 2, none⟩ = some (.int .u32 time) := box_kept hu hg 2 _ rfl
  have b3 : w1.cell? ⟨w.heap.size, 3, none⟩ = some (.int .i32 a) := box_kept hu hg 3 _ rfl
  have b4 : w1.cell? ⟨w.heap.size, 4, none⟩ = some (.int .i32 b) := box_kept hu hg 4 _ rfl
  have b5 : w1.cell? ⟨w.heap.size, 5, none⟩ = some (.int .i32 c) := box_kept hu hg 5 _ rfl
  have HU := Lib.hid (upd_from hu)
  have HK := Lib.hid (order_ok s seq time HO.out)
  generalize s.order seq time = s1 at *
  have H1 := hu.1
  have h7 : w1.cell? ⟨g, o + 7, none⟩ = some (.int .i64 s1.high) := H1.cell_is rfl
  have h8 : w1.cell? ⟨g, o + 8, none⟩ = some (.int .u32 s1.since) := H1.cell_is rfl
  have h9 : w1.cell? ⟨g, o + 9, none⟩ = some (.bool s1.has) := H1.cell_is rfl
  have f7 : w1.frozen? ⟨g, o + 7, none⟩ = false := H1.frozen _
  have f8 : w1.frozen? ⟨g, o + 8, none⟩ = false := H1.frozen _
  have f9 : w1.frozen? ⟨g, o + 9, none⟩ = false := H1.frozen _
  clear hu H1
  go_wp2_with fail
  refine (note_upd g o t cs s1 6 _ HU.out (by decide) (by decide)).mono ?_
  rintro e w' ⟨rfl, hu'⟩
  go_wp2
  go_ret3
  exact ⟨rfl, hu'⟩

theorem take_any (g o : Nat) (t : TypeId) (cs : Array Value) (s : Ln) (kind seq time a b c : Int) (w : World) (H : Hold w g t cs o s.enc) (hok : s.ok) (ha : -2147483648 ≤ a) (hb : a < 2147483648) :
    Calls Try.prog 56 #[.pointer (some ⟨g, o, none⟩), frm kind seq time a b c] w (TookR w g t cs o (s.take kind seq time a)) := by
  unfold Ln.take
  by_cases c1 : kind < 1
  · rw [if_pos (.inl c1)]; exact take_a g o t cs s kind seq time a b c w H hok ha hb c1
  by_cases c2 : 5 < kind
  · rw [if_pos (.inr c2)]; exact take_b g o t cs s kind seq time a b c w H hok ha hb c2
  rw [if_neg (by omega)]
  rcases Bool.eq_false_or_eq_true (s.late seq time) with c3 | c3
  · rw [if_pos c3]; exact take_c g o t cs s kind seq time a b c w H hok ha hb (by omega) (by omega) c3
  rw [if_neg (by simp [c3])]
  by_cases c4 : kind = 3
  · rw [if_pos c4]; exact take_d g o t cs s kind seq time a b c w H hok ha hb c3 c4
  rw [if_neg c4]
  by_cases c5 : kind = 2
  · rw [if_pos c5]; exact take_e g o t cs s kind seq time a b c w H hok ha hb c3 c5
  rw [if_neg c5]
  exact take_f g o t cs s kind seq time a b c w H hok ha hb c3 (by omega) (by omega) c5 c4

end Go.Proofs.Ytpmomimaihjmjaa
/- Walks of package clearance: New, Check, Count; of the reference: Check. -/
namespace Go.Proofs.Ytpmomimaihjmjaa
open Go.RowKit

/-- Rules as a value. -/
def rul (age jump throw most : Int) : Value := .agg #[.int .u32 age, .int .i64 jump, .int .i64 throw, .int .i64 most]

def rulesOk (age jump throw most : Int) : Bool := decide (age ≤ 60000 ∧ 1 ≤ jump ∧ jump ≤ 1048576 ∧ 0 ≤ throw ∧ throw ≤ 100 ∧ 1 ≤ most ∧ most ≤ 1048576)
def rulesCode (age jump throw most : Int) : Int := if rulesOk age jump throw most then 0 else 2

set_option maxHeartbeats 400000 in
theorem check_any (age jump throw most : Int) (w : World) :
    Calls Try.prog 91 #[rul age jump throw most] w fun e w' => e = .returned (.int .i64 (rulesCode age jump throw most)) ∧ Below w.heap.size w w' := by
  unfold rul
  go_enter Try.func91, Try.ntmps91
  go_wp2
  all_goals
    go_ret
    refine ⟨?_, (Below.refl _ _).alloc (Nat.le_refl _) _⟩
    first
      | (have hr : rulesOk age jump throw most = true := by unfold rulesOk; apply decide_eq_true; omega
         simp [rulesCode, hr])
      | (have hr : rulesOk age jump throw most = false := by unfold rulesOk; apply decide_eq_false; omega
         simp [rulesCode, hr])

end Go.Proofs.Ytpmomimaihjmjaa
/- Words for memory: whole structs. -/
namespace Go.Proofs.Ytpmomimaihjmjaa
open Go.RowKit

/-- Two results, the first a struct in memory. -/
theorem results_row_tmp {P : Program} {fn : Func} {p u : Tmp} {ty : TypeId} (h : fn.results = #[.cell p ty, .tmp u]) (tmps : Array Value) (w : World) (g : Nat) (t : TypeId) (cs : Array Value) (fr : Nat × Nat) (d : TypeDesc)
    (hp : tmps.getD p undef = .pointer (some ⟨g, 0, none⟩)) (hg : w.heap[g]? = some (.cells cs t fr))
    (hu : P.underlying ty = some d) (hd : (match d with | .struct _ | .array _ _ => true | _ => false) = true) (hi : (P.info? ty).map (·.size) = some cs.size) :
    (results fn tmps).run P w = .ok (.tuple #[.agg cs, tmps.getD u undef]) w := by
  rw [results_cell_tmp h, hp]
  simp only [asAddr, Sem.run_pure, Result.andThen_ok, run_loadVar_row w g t ty cs fr d hg hu hd hi]

theorem setRow_heap {w : World} {g : Nat} {t : TypeId} {old : Array Value} (h : w.heap[g]? = some (.cells old t (0, 0))) (cs : Array Value) : (w.setRow g cs).heap[g]? = some (.cells cs t (0, 0)) := by
  simp [World.setRow, Array.getElem?_modify, h]
theorem setRow_other {w : World} {g k : Nat} (cs : Array Value) (h : k ≠ g) : (w.setRow g cs).heap[k]? = w.heap[k]? := by
  simp only [World.setRow, Array.getElem?_modify]
  rw [if_neg (by omega)]
theorem below_setRow {B g : Nat} {a w : World} (h : Below B a w) (hg : B ≤ g) (cs : Array Value) : Below B a (w.setRow g cs) :=
  h.trans ⟨rfl, rfl, rfl, by simp [World.setRow], fun k hk => setRow_other cs (by omega)⟩

theorem heap_alloc_at {w : World} {k : Nat} (ob : Obj) (h : k = w.heap.size) : (w.alloc ob).heap[k]? = some ob := by subst h; exact heap_alloc_new w ob

end Go.Proofs.Ytpmomimaihjmjaa
/- Walks of package clearance: New, Count. -/
namespace Go.Proofs.Ytpmomimaihjmjaa
open Go.RowKit

/-- A line on which nothing came. -/
def Ln.new (age jump throw most : Int) : Ln := ⟨age, jump, throw, most, false, 0, 0, 0, 0, false, 0, false, 0, 0, 0, 0, 0, 0, 0, 0⟩
def Ln.val (s : Ln) : Value := .agg s.enc.toArray

theorem Ln.one (s : Ln) : s.enc.toArray.all (·.oneCell') = true := by simp [Ln.enc, Value.oneCell']
theorem Ln.info (s : Ln) : (Try.prog.info? 119).map (·.size) = some s.enc.toArray.size := by
  have h : (Try.prog.info? 119).map (·.size) = some 20 := by kernel_rfl
  exact h

set_option maxHeartbeats 400000 in
theorem new_no (age jump throw most : Int) (w : World) (hr : rulesOk age jump throw most = false) :
    Calls Try.prog 55 #[rul age jump throw most] w fun e w' => e = .returned (.tuple #[(Ln.new 0 0 0 0).val, .int .i64 2]) ∧ Below w.heap.size w w' := by
  have hc : rulesCode age jump throw most = 2 := by simp [rulesCode, hr]
  have HC := Lib.hid hc
  clear hr hc
  unfold rul
  go_enter Try.func55, Try.ntmps55
  go_wp2_with fail
  refine (check_any age jump throw most _).mono ?_
  rintro e w1 ⟨rfl, hb⟩
  rw [HC.out]
  have ho : w1.heap[w.heap.size + 1]? = some (.cells (Ln.new 0 0 0 0).enc.toArray 119 (0, 0)) :=
    (hb.block _ (by simp)).trans (heap_alloc_at _ (by simp))
  have hbx : w1.cell? ⟨w.heap.size, 0, none⟩ = some (.int .u32 age) := (hb.cell (p := ⟨w.heap.size, 0, none⟩) (by simp only [World.size_alloc]; omega)).trans (by simp)
  have hby : w1.cell? ⟨w.heap.size, 1, none⟩ = some (.int .i64 jump) := (hb.cell (p := ⟨w.heap.size, 1, none⟩) (by simp only [World.size_alloc]; omega)).trans (by simp)
  have hbz : w1.cell? ⟨w.heap.size, 2, none⟩ = some (.int .i64 throw) := (hb.cell (p := ⟨w.heap.size, 2, none⟩) (by simp only [World.size_alloc]; omega)).trans (by simp)
  have hbt : w1.cell? ⟨w.heap.size, 3, none⟩ = some (.int .i64 most) := (hb.cell (p := ⟨w.heap.size, 3, none⟩) (by simp only [World.size_alloc]; omega)).trans (by simp)
  have HB := Lib.hid hb
  have HO := Lib.hid ho
  clear hb ho
  go_wp2_with (refine wpList_store_row rfl 119 _ _ rfl (w.heap.size + 1) (Ln.new 0 0 0 0).enc.toArray rfl rfl 119 _ HO.out (Ln.info _) rfl (Ln.one _) ?_)
  have hg := setRow_heap HO.out (Ln.new 0 0 0 0).enc.toArray
  refine bodyPost_ret (results_row_tmp rfl _ _ (w.heap.size + 1) 119 _ (0, 0) _ rfl hg Try.underlying119 rfl (by kernel_rfl)) rfl ?_
  refine ⟨rfl, ?_⟩
  exact below_setRow ((((Below.refl w.heap.size w).alloc (Nat.le_refl _) _).alloc (by simp) _).trans (HB.out.mono (by simp; omega))) (by omega) _

set_option maxHeartbeats 400000 in
theorem new_yes (age jump throw most : Int) (w : World) (hr : rulesOk age jump throw most = true) :
    Calls Try.prog 55 #[rul age jump throw most] w fun e w' => e = .returned (.tuple #[(Ln.new age jump throw most).val, .int .i64 0]) ∧ Below w.heap.size w w' := by
  have hc : rulesCode age jump throw most = 0 := by simp [rulesCode, hr]
  have HC := Lib.hid hc
  clear hr hc
  unfold rul
  go_enter Try.func55, Try.ntmps55
  go_wp2_with fail
  refine (check_any age jump throw most _).mono ?_
  rintro e w1 ⟨rfl, hb⟩
  rw [HC.out]
  have ho : w1.heap[w.heap.size + 1]? = some (.cells (Ln.new 0 0 0 0).enc.toArray 119 (0, 0)) :=
    (hb.block _ (by simp)).trans (heap_alloc_at _ (by simp))
  have hbx : w1.cell? ⟨w.heap.size, 0, none⟩ = some (.int .u32 age) := (hb.cell (p := ⟨w.heap.size, 0, none⟩) (by simp only [World.size_alloc]; omega)).trans (by simp)
  have hby : w1.cell? ⟨w.heap.size, 1, none⟩ = some (.int .i64 jump) := (hb.cell (p := ⟨w.heap.size, 1, none⟩) (by simp only [World.size_alloc]; omega)).trans (by simp)
  have hbz : w1.cell? ⟨w.heap.size, 2, none⟩ = some (.int .i64 throw) := (hb.cell (p := ⟨w.heap.size, 2, none⟩) (by simp only [World.size_alloc]; omega)).trans (by simp)
  have hbt : w1.cell? ⟨w.heap.size, 3, none⟩ = some (.int .i64 most) := (hb.cell (p := ⟨w.heap.size, 3, none⟩) (by simp only [World.size_alloc]; omega)).trans (by simp)
  have HB := Lib.hid hb
  have HO := Lib.hid ho
  clear hb ho
  go_wp2_with (refine wpList_store_row rfl 119 _ _ rfl (w.heap.size + 1) (Ln.new age jump throw most).enc.toArray rfl rfl 119 _ HO.out (Ln.info _) rfl (Ln.one _) ?_)
  have hg := setRow_heap HO.out (Ln.new age jump throw most).enc.toArray
  refine bodyPost_ret (results_row_tmp rfl _ _ (w.heap.size + 1) 119 _ (0, 0) _ rfl hg Try.underlying119 rfl (by kernel_rfl)) rfl ?_
  refine ⟨rfl, ?_⟩
  exact below_setRow ((((Below.refl w.heap.size w).alloc (Nat.le_refl _) _).alloc (by simp) _).trans (HB.out.mono (by simp; omega))) (by omega) _

end Go.Proofs.Ytpmomimaihjmjaa
/- Package clearance on a world's frames: New, Take. -/
namespace Go.Proofs.Ytpmomimaihjmjaa
open Go.RowKit
theorem does_calls {P : Program} {f : FuncId} {args : List Value} {S : List HE} {w : World} {Rl : Value → List HE → Prop} (h : Calls P f args.toArray w (Post S w Rl)) : Does P f args S w Rl := fun _ => callsIn_wide.2 h
theorem does_below {P : Program} {f : FuncId} {args : List Value} {w : World} {v0 : Value} (h : Calls P f args.toArray w (fun e w' => e = .returned v0 ∧ Below w.heap.size w w')) : Does P f args [] w (fun v S' => v = v0 ∧ S' = []) :=
  does_calls (h.mono fun e w' ⟨he, hb⟩ => ⟨v0, [], he, ⟨rfl, rfl⟩, ⟨hb.os, hb.tape, hb.output, hb.size, fun b hlt _ => hb.block b hlt, ⟨by simp, .nil⟩, by simp⟩⟩)
abbrev lnE : Ln → List Value := fun s => [.int .u32 s.age, .int .i64 s.jump, .int .i64 s.throw, .int .i64 s.most, .bool s.any, .int .u16 s.seq, .int .u32 s.time, .int .i64 s.high, .int .u32 s.since, .bool s.has, .int .i64 s.last, .bool s.based, .int .i64 s.threw, .int .i64 s.c0, .int .i64 s.c1, .int .i64 s.c2, .int .i64 s.c3, .int .i64 s.c4, .int .i64 s.c5, .int .i64 s.c6]
theorem splice_allE (xs ys : List Value) (h : xs.length = ys.length) : splice xs.toArray 0 ys = ys.toArray := by
  unfold splice
  simp [h]
theorem takeE (g : Nat) (s : Ln) (f : Frm) (w : World) (hown : Own [.blk g 119 (lnE s)] w) (hok : s.ok) (ha : -2147483648 ≤ f.a ∧ f.a < 2147483648) :
    Does Try.prog 56 [.pointer (some ⟨g, 0, none⟩), .agg (frmE f).toArray] [.blk g 119 (lnE s)] w
      (fun v S' => v = .tuple #[.int .i64 (s.take f.kind f.seq f.time f.a).2.1, .int .i64 (s.take f.kind f.seq f.time f.a).2.2.1, .bool (s.take f.kind f.seq f.time f.a).2.2.2] ∧ S' = [.blk g 119 (lnE (s.take f.kind f.seq f.time f.a).1)]) := by
  have hg : w.heap[g]? = some (.cells (lnE s).toArray 119 (0, 0)) := hown.holds _ (List.mem_cons_self ..)
  have H : Hold w g 119 s.enc.toArray 0 s.enc := ⟨by rw [splice_allE _ _ rfl]; exact hg, by simp⟩
  refine does_calls ((take_any g 0 119 s.enc.toArray s f.kind f.seq f.time f.a f.b f.c w H hok ha.1 ha.2).mono ?_)
  rintro e w' ⟨he, ⟨h1, h2⟩, h3⟩
  rw [splice_allE _ _ (by simp [Ln.enc])] at h1
  refine ⟨_, _, he, ⟨rfl, rfl⟩, ⟨h3.os, h3.tape, h3.output, h3.size, fun b hb hW => h3.block b hb (fun e => hW ⟨_, List.mem_cons_self .., e.symm⟩), ⟨fun x hx => ?_, List.pairwise_singleton _ _⟩, fun x hx b hb => ?_⟩⟩
  · rw [List.mem_singleton.1 hx]; exact h1
  · rw [List.mem_singleton.1 hx] at hb; exact .inl ⟨_, List.mem_cons_self .., hb⟩
instance newG_cv : CV Try.prog 55 [.agg #[.int .u32 0, .int .i64 1048576, .int .i64 0, .int .i64 1048576]] (.tuple #[.agg (lnE (Ln.new 0 1048576 0 1048576)).toArray, .int .i64 0]) True := ⟨fun _ w => does_below (new_yes 0 1048576 0 1048576 w (by decide))⟩
end Go.Proofs.Ytpmomimaihjmjaa
/- The ground that comes of what is told: the plain law. -/
namespace Go.Proofs.Ytpmomimaihjmjaa
open Go.RowKit
/-- A line of the rules of the law, behind frame number told, at a time. -/
structure LnI (s : Ln) (told time : Int) : Prop where
  ok : s.ok
  age : s.age = 0
  jump : s.jump = 1048576
  throw : s.throw = 0
  most : s.most = 1048576
  any : s.any = true → s.seq = told ∧ s.time ≤ time
theorem note_same (s : Ln) (k : Int) : (s.note k).age = s.age ∧ (s.note k).jump = s.jump ∧ (s.note k).throw = s.throw ∧ (s.note k).most = s.most ∧ (s.note k).any = s.any ∧ (s.note k).seq = s.seq ∧ (s.note k).time = s.time ∧ (s.note k).high = s.high ∧ (s.note k).since = s.since ∧ (s.note k).has = s.has ∧ (s.note k).last = s.last ∧ (s.note k).threw = s.threw := by
  unfold Ln.note
  split
  · simp
  split
  · simp
  split
  · simp
  split
  · simp
  split
  · simp
  split
  · simp
  · simp
theorem LnI.note {s : Ln} {told time : Int} (h : LnI s told time) (k : Int) : LnI (s.note k) told time := by
  obtain ⟨n1, n2, n3, n4, n5, n6, n7, n8, n9, n10, n11, n12⟩ := note_same s k
  obtain ⟨o1, o2, o3, o4, o5, o6, o7⟩ := h.ok
  exact ⟨by unfold Ln.ok; rw [n8, n11, n2, n12]; exact h.ok, by rw [n1]; exact h.age, by rw [n2]; exact h.jump, by rw [n3]; exact h.throw, by rw [n4]; exact h.most, by rw [n5, n6, n7]; exact h.any⟩
theorem LnI.time {s : Ln} {told time t2 : Int} (h : LnI s told time) (ht : time ≤ t2) : LnI s told t2 :=
  ⟨h.ok, h.age, h.jump, h.throw, h.most, fun q => ⟨(h.any q).1, by have := (h.any q).2; omega⟩⟩
theorem LnI.late {s : Ln} {told time : Int} (h : LnI s told time) (ht : 0 ≤ told ∧ told ≤ 1000) : s.late (told + 1) time = false := by
  unfold Ln.late
  cases ha : s.any
  · rfl
  · obtain ⟨h1, h2⟩ := h.any ha
    rw [h1]
    have e : newerB (told + 1) told = true := by
      unfold newerB
      simp only [Bool.and_eq_true, bne_iff_ne, decide_eq_true_eq]
      omega
    rw [e]
    simp
    omega
theorem LnI.order {s : Ln} {told time : Int} (h : LnI s told time) (ht : 0 ≤ told ∧ told ≤ 1000) : s.order (told + 1) time = { s with any := true, seq := told + 1, time := time } := by
  unfold Ln.order
  rw [h.late ht]
  rfl
theorem LnI.next {s : Ln} {told time : Int} (h : LnI s told time) : LnI { s with any := true, seq := told + 1, time := time } (told + 1) time :=
  ⟨h.ok, h.age, h.jump, h.throw, h.most, fun _ => ⟨rfl, Int.le_refl _⟩⟩
/-- A move, or a start, tells no ground. -/
theorem take_other {s : Ln} {told time kind a : Int} (h : LnI s told time) (ht : 0 ≤ told ∧ told ≤ 1000) (hk : 1 ≤ kind ∧ kind ≤ 5 ∧ kind ≠ 3 ∧ kind ≠ 2) : (s.take kind (told + 1) time a).2.2.2 = false ∧ LnI (s.take kind (told + 1) time a).1 (told + 1) time := by
  unfold Ln.take
  rw [if_neg (by omega), h.late ht, if_neg (by decide), if_neg hk.2.2.1, if_neg hk.2.2.2, h.order ht]
  exact ⟨rfl, h.next.note 6⟩
/-- A height is kept. -/
theorem take_baro {s : Ln} {told time a : Int} (h : LnI s told time) (ht : 0 ≤ told ∧ told ≤ 1000) (ha : -2147483648 ≤ a ∧ a < 2147483648) : (s.take 3 (told + 1) time a).2.2.2 = false ∧ LnI (s.take 3 (told + 1) time a).1 (told + 1) time ∧ (s.take 3 (told + 1) time a).1.has = true ∧ (s.take 3 (told + 1) time a).1.high = a ∧ (s.take 3 (told + 1) time a).1.since = time := by
  have e : s.take 3 (told + 1) time a = (({ s.order (told + 1) time with high := a, since := time, has := true } : Ln).note 0, 0, 0, false) := by
    unfold Ln.take
    rw [if_neg (by omega), h.late ht, if_neg (by decide), if_pos rfl]
  rw [e, h.order ht]
  obtain ⟨n1, n2, n3, n4, n5, n6, n7, n8, n9, n10, n11, n12⟩ := note_same ({ s with any := true, seq := told + 1, time := time, high := a, since := time, has := true } : Ln) 0
  obtain ⟨o1, o2, o3, o4, o5, o6, o7⟩ := h.ok
  have hI : LnI ({ s with any := true, seq := told + 1, time := time, high := a, since := time, has := true } : Ln) (told + 1) time := ⟨⟨ha.1, ha.2, o3, o4, o5, o6, o7⟩, h.age, h.jump, h.throw, h.most, fun _ => ⟨rfl, Int.le_refl _⟩⟩
  exact ⟨rfl, hI.note 0, n10, n8, n9⟩
/-- A range tells the ground. -/
theorem take_radar {s : Ln} {told time a : Int} (h : LnI s told time) (ht : 0 ≤ told ∧ told ≤ 1000) (hh : s.has = true) (hs : s.since = time) (ha : 0 ≤ a ∧ a ≤ 1048576) : (s.take 2 (told + 1) time a).2.2.2 = true ∧ (s.take 2 (told + 1) time a).2.2.1 = s.high - a ∧ LnI (s.take 2 (told + 1) time a).1 (told + 1) time := by
  have e : s.take 2 (told + 1) time a = Ln.radar { s with any := true, seq := told + 1, time := time } time a := by
    unfold Ln.take
    rw [if_neg (by omega), h.late ht, if_neg (by decide), if_neg (by decide), if_pos rfl, h.order ht]
  obtain ⟨o1, o2, o3, o4, o5, o6, o7⟩ := h.ok
  rw [e]
  unfold Ln.radar
  rw [if_neg (by show ¬(a < 0 ∨ s.most < a); rw [h.most]; omega), if_neg (by show ¬(s.has = false ∨ s.age < (time - s.since) % 4294967296); rw [hh, hs, h.age, Int.sub_self]; simp)]
  have hI : LnI { s with any := true, seq := told + 1, time := time, last := s.high - a, based := true, threw := 0 } (told + 1) time := ⟨⟨o1, o2, by show -4294967296 ≤ s.high - a; omega, by show s.high - a ≤ 4294967296; omega, o5, Int.le_refl _, by show (0 : Int) ≤ 1000; omega⟩, h.age, h.jump, h.throw, h.most, fun _ => ⟨rfl, Int.le_refl _⟩⟩
  split
  · rw [if_neg (by show ¬ s.threw < s.throw; rw [h.throw]; omega)]
    exact ⟨rfl, rfl, hI.note 5⟩
  · exact ⟨rfl, rfl, hI.note 0⟩
/-- A new line. -/
theorem new_I : LnI (Ln.new 0 1048576 0 1048576) 0 0 := ⟨by unfold Ln.ok Ln.new; decide, rfl, rfl, rfl, rfl, fun h => absurd h (by decide)⟩
/-- What frame number k of those that are told says. -/
structure FrK (told : Int) (v : Wv) (z e : Int) (k : Nat) (fr : Frm) : Prop where
  seq : fr.seq = told + k + 1
  time : fr.time = v.time
  a : -2147483648 ≤ fr.a ∧ fr.a < 2147483648
  kind : (k = 0 ∧ fr.kind = 1) ∨ (k = 1 ∧ fr.kind = 3 ∧ fr.a = v.high + v.off) ∨ (k = 2 ∧ fr.kind = 2 ∧ fr.a = v.high - z ∧ (0 ≤ fr.a ∧ fr.a ≤ 1048576) ∧ e = 0)
theorem goL_fr {v : Wv} {b z e : Int} (hv : v.ok b) (hb : b ≤ 1000) (k : Nat) (hk : k < (goL v z e).length) : FrK v.told v z e k ((goL v z e).getD k default) := by
  have ht := hv.told
  have hx := hv.dx
  have hh := hv.high
  have ho := hv.off
  unfold goL at hk ⊢
  split at hk
  · rename_i hr
    rw [if_pos hr]
    have hr' : e = 0 ∧ z ≤ v.high ∧ v.high - z ≤ 1048576 := by simpa [radB] using hr
    obtain rfl | rfl | rfl : k = 0 ∨ k = 1 ∨ k = 2 := by simp at hk; omega
    · exact ⟨by show (v.told + 1) % 65536 = v.told + ((0 : Nat) : Int) + 1; omega, rfl, by show -2147483648 ≤ v.dx ∧ v.dx < 2147483648; omega, .inl ⟨rfl, rfl⟩⟩
    · exact ⟨by show (v.told + 1 + 1) % 65536 = v.told + ((1 : Nat) : Int) + 1; omega, rfl, by show -2147483648 ≤ v.high + v.off ∧ v.high + v.off < 2147483648; omega, .inr (.inl ⟨rfl, rfl, rfl⟩)⟩
    · exact ⟨by show (v.told + 2 + 1) % 65536 = v.told + ((2 : Nat) : Int) + 1; omega, rfl, by show -2147483648 ≤ v.high - z ∧ v.high - z < 2147483648; omega, .inr (.inr ⟨rfl, rfl, rfl, by show 0 ≤ v.high - z ∧ v.high - z ≤ 1048576; omega, hr'.1⟩)⟩
  · rename_i hr
    rw [if_neg hr]
    obtain rfl | rfl : k = 0 ∨ k = 1 := by simp at hk; omega
    · exact ⟨by show (v.told + 1) % 65536 = v.told + ((0 : Nat) : Int) + 1; omega, rfl, by show -2147483648 ≤ v.dx ∧ v.dx < 2147483648; omega, .inl ⟨rfl, rfl⟩⟩
    · exact ⟨by show (v.told + 1 + 1) % 65536 = v.told + ((1 : Nat) : Int) + 1; omega, rfl, by show -2147483648 ≤ v.high + v.off ∧ v.high + v.off < 2147483648; omega, .inr (.inl ⟨rfl, rfl, rfl⟩)⟩
theorem go_facts {W H : Nat} {f : List Int} {v : Wv} {b dx dy up ms : Int} (hv : v.ok b) (hb : b ≤ 1000) (htm : v.time ≤ 4000000000) (hms : 0 ≤ ms) :
    (goF W H f v dx dy up ms).1.told = v.told + (goF W H f v dx dy up ms).2.1.length ∧ (goF W H f v dx dy up ms).1.off = v.off ∧ v.time ≤ (goF W H f v dx dy up ms).1.time ∧ (goF W H f v dx dy up ms).1.time ≤ v.time + 60000 ∧ (goF W H f v dx dy up ms).2.1.length ≤ 3 ∧
    ∀ k, k < (goF W H f v dx dy up ms).2.1.length → FrK v.told (goF W H f v dx dy up ms).1 (heightT W H f (goF W H f v dx dy up ms).1.x (goF W H f v dx dy up ms).1.y) (codeF W H f (goF W H f v dx dy up ms).1.x (goF W H f v dx dy up ms).1.y) k ((goF W H f v dx dy up ms).2.1.getD k default) := by
  have ht := hv.time
  by_cases hc : goC v dx dy up ms = 0
  · have e : goF W H f v dx dy up ms = _ := if_pos hc
    rw [e]
    have hg := goV_ok hv hc
    have hmm : ms ≤ 60000 := by
      unfold goC at hc
      split at hc
      · exact absurd hc (by decide)
      · rename_i h1
        exact (Decidable.not_not.1 h1).2.2.2
    refine ⟨rfl, rfl, by show v.time ≤ (v.time + ms) % 4294967296; omega, by show (v.time + ms) % 4294967296 ≤ v.time + 60000; omega, ?_, fun k hk => ?_⟩
    · show (goL _ _ _).length ≤ 3
      unfold goL
      split <;> simp
    · have h := goL_fr hg hb k hk
      exact ⟨h.seq, h.time, h.a, h.kind⟩
  · have e : goF W H f v dx dy up ms = (v, [], goC v dx dy up ms) := if_neg hc
    rw [e]
    refine ⟨by show v.told = v.told + ((0 : Nat) : Int); omega, rfl, Int.le_refl _, by show v.time ≤ v.time + 60000; omega, Nat.zero_le _, fun k hk => absurd hk (Nat.not_lt_zero k)⟩
/-- A frame of these, taken. -/
theorem take_fr {s : Ln} {told : Int} {v : Wv} {z e : Int} {k : Nat} {fr : Frm} (hI : LnI s (told + k) v.time) (ht : 0 ≤ told ∧ told ≤ 900) (hk3 : k ≤ 3) (hh : k = 2 → s.has = true ∧ s.high = v.high + v.off ∧ s.since = v.time) (hF : FrK told v z e k fr) :
    (s.take fr.kind fr.seq fr.time fr.a).2.2.2 = (fr.kind == 2) ∧ (fr.kind = 2 → e = 0 ∧ (s.take fr.kind fr.seq fr.time fr.a).2.2.1 = z + v.off) ∧ LnI (s.take fr.kind fr.seq fr.time fr.a).1 (told + ((k + 1 : Nat) : Int)) v.time ∧ (k + 1 = 2 → (s.take fr.kind fr.seq fr.time fr.a).1.has = true ∧ (s.take fr.kind fr.seq fr.time fr.a).1.high = v.high + v.off ∧ (s.take fr.kind fr.seq fr.time fr.a).1.since = v.time) := by
  rw [hF.seq, hF.time, show told + ((k + 1 : Nat) : Int) = told + k + 1 by omega]
  rcases hF.kind with ⟨rfl, hk⟩ | ⟨rfl, hk, ha⟩ | ⟨rfl, hk, ha, ha2, he⟩
  · rw [hk]
    have h := take_other (kind := 1) (a := fr.a) hI (by omega) (by decide)
    exact ⟨by rw [h.1]; rfl, fun q => absurd q (by decide), h.2, fun q => absurd q (by decide)⟩
  · rw [hk]
    have h := take_baro (a := fr.a) hI (by omega) hF.a
    exact ⟨by rw [h.1]; rfl, fun q => absurd q (by decide), h.2.1, fun _ => ⟨h.2.2.1, by rw [h.2.2.2.1, ha], h.2.2.2.2⟩⟩
  · rw [hk]
    obtain ⟨q1, q2, q3⟩ := hh rfl
    have h := take_radar (a := fr.a) hI (by omega) q1 q3 ha2
    exact ⟨by rw [h.1]; rfl, fun _ => ⟨he, by rw [h.2.1, q2, ha]; omega⟩, h.2.2, fun q => absurd q (by decide)⟩
end Go.Proofs.Ytpmomimaihjmjaa
