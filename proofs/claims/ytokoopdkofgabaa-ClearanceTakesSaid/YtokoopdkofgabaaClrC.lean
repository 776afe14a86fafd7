/- Walks of package clearance: Take, a theorem for each way through it; New, Check, Count. -/
import Derived.Test.YtokoopdkofgabaaClrB
namespace Go.Proofs.Ytokoopdkofgabaa
open Go.RowKit

/-- What the code keeps in bounds. -/
def Ln.ok (s : Ln) : Prop := -2147483648 ≤ s.high ∧ s.high < 2147483648 ∧ -4294967296 ≤ s.last ∧ s.last ≤ 4294967296 ∧ 1 ≤ s.jump ∧ 0 ≤ s.threw ∧ s.threw ≤ 1000

def Ln.radar (s : Ln) (time a : Int) : Ln × Int × Int × Bool :=
  if a < 0 ∨ s.most < a then (s.note 2, 2, 0, false)
  else if s.has = false ∨ s.age < (time - s.since) % 4294967296 then (s.note 3, 3, 0, false)
  else if s.based = true ∧ (s.jump < s.high - a - s.last ∨ s.high - a - s.last < -s.jump) then
    if s.threw < s.throw then (({ s with threw := s.threw + 1 } : Ln).note 4, 4, 0, false)
    else (({ s with last := s.high - a, based := true, threw := 0 } : Ln).note 5, 5, s.high - a, true)
  else (({ s with last := s.high - a, based := true, threw := 0 } : Ln).note 0, 0, s.high - a, true)

/-- The three results of a call, and the line behind it. -/
def TookR (w : World) (g : Nat) (t : TypeId) (cs : Array Value) (o : Nat) (r : Ln × Int × Int × Bool) (e : Ending) (w' : World) : Prop :=
  e = .returned (.tuple #[.int .i64 r.2.1, .int .i64 r.2.2.1, .bool r.2.2.2]) ∧ Upd w g t cs o r.1.enc w'

theorem radar_any (g o : Nat) (t : TypeId) (cs : Array Value) (s : Ln) (kind seq time a b c : Int) (w : World) (H : Hold w g t cs o s.enc) (hok : s.ok) (ha : -2147483648 ≤ a) (hb : a < 2147483648) :
    Calls Try.prog 67 #[.pointer (some ⟨g, o, none⟩), frm kind seq time a b c] w (TookR w g t cs o (s.radar time a)) := by
  obtain ⟨i1, i2, i3, i4, i5, i6, i7⟩ := hok
  unfold TookR Ln.radar
  by_cases c1 : a < 0
  · rw [if_pos (.inl c1)]; exact radar_a g o t cs s kind seq time a b c w H ha hb c1
  by_cases c2 : s.most < a
  · rw [if_pos (.inr c2)]; exact radar_b g o t cs s kind seq time a b c w H ha hb (by omega) c2
  rw [if_neg (by omega)]
  rcases (Bool.eq_false_or_eq_true s.has).symm with c3 | c3
  · rw [if_pos (.inl c3)]; exact radar_c g o t cs s kind seq time a b c w H ha hb (by omega) (by omega) c3
  by_cases c4 : s.age < (time - s.since) % 4294967296
  · rw [if_pos (.inr c4)]; exact radar_d g o t cs s kind seq time a b c w H ha hb (by omega) (by omega) c3 c4
  rw [if_neg (by simp [c3]; omega)]
  rcases (Bool.eq_false_or_eq_true s.based).symm with c5 | c5
  · rw [if_neg (by simp [c5])]; exact radar_e g o t cs s kind seq time a b c w H ha hb (by omega) (by omega) c3 (by omega) i1 i2 i3 i4 i5 i6 i7 c5
  by_cases c6 : s.jump < s.high - a - s.last
  · rw [if_pos ⟨c5, .inl c6⟩]
    by_cases c7 : s.threw < s.throw
    · rw [if_pos c7]; exact radar_g g o t cs s kind seq time a b c w H ha hb (by omega) (by omega) c3 (by omega) i1 i2 i3 i4 i5 i6 i7 c5 c6 c7
    · rw [if_neg c7]; exact radar_g2 g o t cs s kind seq time a b c w H ha hb (by omega) (by omega) c3 (by omega) i1 i2 i3 i4 i5 i6 i7 c5 c6 (by omega)
  by_cases c8 : s.high - a - s.last < -s.jump
  · rw [if_pos ⟨c5, .inr c8⟩]
    by_cases c7 : s.threw < s.throw
    · rw [if_pos c7]; exact radar_h g o t cs s kind seq time a b c w H ha hb (by omega) (by omega) c3 (by omega) i1 i2 i3 i4 i5 i6 i7 c5 c8 c7
    · rw [if_neg c7]; exact radar_h2 g o t cs s kind seq time a b c w H ha hb (by omega) (by omega) c3 (by omega) i1 i2 i3 i4 i5 i6 i7 c5 c8 (by omega)
  rw [if_neg (by omega)]
  exact radar_f g o t cs s kind seq time a b c w H ha hb (by omega) (by omega) c3 (by omega) i1 i2 i3 i4 i5 i6 i7 c5 (by omega) (by omega)

def Ln.take (s : Ln) (kind seq time a : Int) : Ln × Int × Int × Bool :=
  if kind < 1 ∨ 5 < kind then (s.note 2, 2, 0, false)
  else if s.late seq time then (s.note 1, 1, 0, false)
  else if kind = 3 then (({ s.order seq time with high := a, since := time, has := true } : Ln).note 0, 0, 0, false)
  else if kind = 2 then (s.order seq time).radar time a
  else ((s.order seq time).note 6, 6, 0, false)

theorem order_ok (s : Ln) (seq time : Int) (h : s.ok) : (s.order seq time).ok := by
  unfold Ln.order; split <;> exact h

theorem order_upd {w0 : World} (g o : Nat) (t : TypeId) (cs : Array Value) (s : Ln) (kind seq time a b c : Int) (w : World) (U : Upd w0 g t cs o s.enc w) :
    Calls Try.prog 66 #[.pointer (some ⟨g, o, none⟩), frm kind seq time a b c] w fun e w' => e = .returned (.bool (!(s.late seq time))) ∧ Upd w0 g t cs o (s.order seq time).enc w' :=
  (order_any g o t cs s kind seq time a b c w U.1).mono fun _ _ ⟨he, hu⟩ => ⟨he, U.trans hu⟩

theorem radar_upd {w0 : World} (g o : Nat) (t : TypeId) (cs : Array Value) (s : Ln) (kind seq time a b c : Int) (w : World) (U : Upd w0 g t cs o s.enc w) (hok : s.ok) (ha : -2147483648 ≤ a) (hb : a < 2147483648) :
    Calls Try.prog 67 #[.pointer (some ⟨g, o, none⟩), frm kind seq time a b c] w (TookR w0 g t cs o (s.radar time a)) :=
  (radar_any g o t cs s kind seq time a b c w U.1 hok ha hb).mono fun _ _ ⟨he, hu⟩ => ⟨he, U.trans hu⟩

set_option maxHeartbeats 400000 in
theorem take_a (g o : Nat) (t : TypeId) (cs : Array Value) (s : Ln) (kind seq time a b c : Int) (w : World) (H : Hold w g t cs o s.enc) (hok : s.ok) (ha : -2147483648 ≤ a) (hb : a < 2147483648)
    (c1 : kind < 1) :
    Calls Try.prog 20 #[.pointer (some ⟨g, o, none⟩), frm kind seq time a b c] w (TookR w g t cs o (s.note 2, 2, 0, false)) := by
  have hg := H.lt
  have HH := Lib.hid H
  have HO := Lib.hid hok
  clear H hok
  unfold frm
  go_enter Try.func20, Try.ntmps20
  go_wp2_with fail
  refine (note_upd g o t cs s 2 _ ((Upd.start HH.out).alloc _) (by decide) (by decide)).mono ?_
  rintro e w' ⟨rfl, hu'⟩
  go_wp2
  go_ret3
  exact ⟨rfl, hu'⟩

set_option maxHeartbeats 400000 in
theorem take_b (g o : Nat) (t : TypeId) (cs : Array Value) (s : Ln) (kind seq time a b c : Int) (w : World) (H : Hold w g t cs o s.enc) (hok : s.ok) (ha : -2147483648 ≤ a) (hb : a < 2147483648)
    (c1 : 5 < kind) :
    Calls Try.prog 20 #[.pointer (some ⟨g, o, none⟩), frm kind seq time a b c] w (TookR w g t cs o (s.note 2, 2, 0, false)) := by
  have hg := H.lt
  have HH := Lib.hid H
  have HO := Lib.hid hok
  clear H hok
  unfold frm
  go_enter Try.func20, Try.ntmps20
  go_wp2_with fail
  refine (note_upd g o t cs s 2 _ ((Upd.start HH.out).alloc _) (by decide) (by decide)).mono ?_
  rintro e w' ⟨rfl, hu'⟩
  go_wp2
  go_ret3
  exact ⟨rfl, hu'⟩

set_option maxHeartbeats 400000 in
theorem take_c (g o : Nat) (t : TypeId) (cs : Array Value) (s : Ln) (kind seq time a b c : Int) (w : World) (H : Hold w g t cs o s.enc) (hok : s.ok) (ha : -2147483648 ≤ a) (hb : a < 2147483648)
    (c1 : 1 ≤ kind) (c2 : kind ≤ 5) (c3 : s.late seq time = true) :
    Calls Try.prog 20 #[.pointer (some ⟨g, o, none⟩), frm kind seq time a b c] w (TookR w g t cs o (s.note 1, 1, 0, false)) := by
  have hg := H.lt
  have HH := Lib.hid H
  have e2 : s.order seq time = s := by simp [Ln.order, c3]
  have E2 := Lib.hid e2
  have HL := Lib.hid c3
  clear c3 e2
  have HO := Lib.hid hok
  clear H hok
  unfold frm
  go_enter Try.func20, Try.ntmps20
  go_wp2_with fail
  refine (order_upd g o t cs s kind seq time a b c _ ((Upd.start HH.out).alloc _)).mono ?_
  rintro e w1 ⟨rfl, hu⟩
  rw [HL.out]
  rw [E2.out] at hu
  go_wp2_with fail
  refine (note_upd g o t cs s 1 _ hu (by decide) (by decide)).mono ?_
  rintro e w' ⟨rfl, hu'⟩
  go_wp2
  go_ret3
  exact ⟨rfl, hu'⟩

theorem high_done {w0 w : World} {g : Nat} {t : TypeId} {cs : Array Value} {o : Nat} {s : Ln} (H : Upd w0 g t cs o s.enc w) (a time : Int) (n : Nat) :
    Upd w0 g t cs o (Ln.enc { s with high := a, since := time, has := true }) ((((w.drewN n).setCell ⟨g, o + 7, none⟩ (.int .i64 a)).setCell ⟨g, o + 8, none⟩ (.int .u32 time)).setCell ⟨g, o + 9, none⟩ (.bool true)) :=
  ((H.drewN n).set_ 7 (.int .i64 a) (by simp [Ln.enc]) |>.set_ 8 (.int .u32 time) (by simp [Ln.enc]) |>.set_ 9 (.bool true) (by simp [Ln.enc]))

theorem upd_from {w : World} {g : Nat} {t : TypeId} {cs : Array Value} {o : Nat} {ob : Obj} {xs : List Value} {w1 : World} (hu : Upd (w.alloc ob) g t cs o xs w1) : Upd w g t cs o xs w1 :=
  ⟨hu.1, only_trans (World.grownBy_alloc w ob _) hu.2⟩

theorem box_kept {w : World} {g : Nat} {t e : TypeId} {cs : Array Value} {o : Nat} {bs : Array Value} {xs : List Value} {w1 : World} (hu : Upd (w.alloc (.cells bs e)) g t cs o xs w1) (hg : g < w.heap.size) (k : Nat) (v : Value) (hv : bs[k]? = some v) :
    w1.cell? ⟨w.heap.size, k, none⟩ = some v := by
  refine hu.2.cell (a := ⟨w.heap.size, k, none⟩) ?_ (by simp; omega)
  exact (cell_of_row _ _ _ _ _ _ (heap_alloc_new w (.cells bs e))).trans hv

set_option maxHeartbeats 400000 in
theorem take_d (g o : Nat) (t : TypeId) (cs : Array Value) (s : Ln) (kind seq time a b c : Int) (w : World) (H : Hold w g t cs o s.enc) (hok : s.ok) (ha : -2147483648 ≤ a) (hb : a < 2147483648)
    (c3 : s.late seq time = false) (c1 : kind = 3) :
    Calls Try.prog 20 #[.pointer (some ⟨g, o, none⟩), frm kind seq time a b c] w (TookR w g t cs o (({ s.order seq time with high := a, since := time, has := true } : Ln).note 0, 0, 0, false)) := by
  have hg := H.lt
  have HH := Lib.hid H
  subst c1
  have HL := Lib.hid c3
  clear c3
  have HO := Lib.hid hok
  clear H hok
  unfold frm
  go_enter Try.func20, Try.ntmps20
  go_wp2_with fail
  refine (order_any g o t cs s 3 seq time a b c _ (HH.out.alloc _)).mono ?_
  rintro e w1 ⟨rfl, hu⟩
  rw [HL.out]
  have b0 : w1.cell? ⟨w.heap.size, 0, none⟩ = some (.int .i64 3) := box_kept hu hg 0 _ rfl
  have b1 : w1.cell? ⟨w.heap.size, 1, none⟩ = some (.int .u16 seq) := box_kept hu hg 1 _ rfl
  have b2 : w1.cell? ⟨w.heap.size, 2, none⟩ = some (.int .u32 time) := box_kept hu hg 2 _ rfl
  have b3 : w1.cell? ⟨w.heap.size, 3, none⟩ = some (.int .i32 a) := box_kept hu hg 3 _ rfl
  have b4 : w1.cell? ⟨w.heap.size, 4, none⟩ = some (.int .i32 b) := box_kept hu hg 4 _ rfl
  have b5 : w1.cell? ⟨w.heap.size, 5, none⟩ = some (.int .i32 c) := box_kept hu hg 5 _ rfl
  have HU := Lib.hid (upd_from hu)
  have HK := Lib.hid (order_ok s seq time HO.out)
  generalize s.order seq time = s1 at *
  have H1 := hu.1
  have h7 : w1.cell? ⟨g, o + 7, none⟩ = some (.int .i64 s1.high) := H1.cell_is rfl
  have h8 : w1.cell? ⟨g, o + 8, none⟩ = some (.int .u32 s1.since) := H1.cell_is rfl
  have h9 : w1.cell? ⟨g, o + 9, none⟩ = some (.bool s1.has) := H1.cell_is rfl
  have f7 : w1.frozen? ⟨g, o + 7, none⟩ = false := H1.frozen _
  have f8 : w1.frozen? ⟨g, o + 8, none⟩ = false := H1.frozen _
  have f9 : w1.frozen? ⟨g, o + 9, none⟩ = false := H1.frozen _
  clear hu H1
  go_wp2_with fail
  go_region
  all_goals go_wp2_with fail
  refine (note_upd g o t cs { s1 with high := a, since := time, has := true } 0 _ (high_done HU.out _ _ _) (by decide) (by decide)).mono ?_
  rintro e w' ⟨rfl, hu'⟩
  go_wp2
  go_ret3
  exact ⟨rfl, hu'⟩

set_option maxHeartbeats 400000 in
theorem take_e (g o : Nat) (t : TypeId) (cs : Array Value) (s : Ln) (kind seq time a b c : Int) (w : World) (H : Hold w g t cs o s.enc) (hok : s.ok) (ha : -2147483648 ≤ a) (hb : a < 2147483648)
    (c3 : s.late seq time = false) (c1 : kind = 2) :
    Calls Try.prog 20 #[.pointer (some ⟨g, o, none⟩), frm kind seq time a b c] w (TookR w g t cs o ((s.order seq time).radar time a)) := by
  have hg := H.lt
  have HH := Lib.hid H
  subst c1
  have HL := Lib.hid c3
  clear c3
  have HO := Lib.hid hok
  clear H hok
  unfold frm
  go_enter Try.func20, Try.ntmps20
  go_wp2_with fail
  refine (order_any g o t cs s 2 seq time a b c _ (HH.out.alloc _)).mono ?_
  rintro e w1 ⟨rfl, hu⟩
  rw [HL.out]
  have b0 : w1.cell? ⟨w.heap.size, 0, none⟩ = some (.int .i64 2) := box_kept hu hg 0 _ rfl
  have b1 : w1.cell? ⟨w.heap.size, 1, none⟩ = some (.int .u16 seq) := box_kept hu hg 1 _ rfl
  have b2 : w1.cell? ⟨w.heap.size, 2, none⟩ = some (.int .u32 time) := box_kept hu hg 2 _ rfl
  have b3 : w1.cell? ⟨w.heap.size, 3, none⟩ = some (.int .i32 a) := box_kept hu hg 3 _ rfl
  have b4 : w1.cell? ⟨w.heap.size, 4, none⟩ = some (.int .i32 b) := box_kept hu hg 4 _ rfl
  have b5 : w1.cell? ⟨w.heap.size, 5, none⟩ = some (.int .i32 c) := box_kept hu hg 5 _ rfl
  have HU := Lib.hid (upd_from hu)
  have HK := Lib.hid (order_ok s seq time HO.out)
  generalize s.order seq time = s1 at *
  have H1 := hu.1
  have h7 : w1.cell? ⟨g, o + 7, none⟩ = some (.int .i64 s1.high) := H1.cell_is rfl
  have h8 : w1.cell? ⟨g, o + 8, none⟩ = some (.int .u32 s1.since) := H1.cell_is rfl
  have h9 : w1.cell? ⟨g, o + 9, none⟩ = some (.bool s1.has) := H1.cell_is rfl
  have f7 : w1.frozen? ⟨g, o + 7, none⟩ = false := H1.frozen _
  have f8 : w1.frozen? ⟨g, o + 8, none⟩ = false := H1.frozen _
  have f9 : w1.frozen? ⟨g, o + 9, none⟩ = false := H1.frozen _
  clear hu H1
  go_wp2_with fail
  refine (radar_upd g o t cs s1 2 seq time a b c _ HU.out HK.out ha hb).mono ?_
  rintro e w2 ⟨rfl, hu'⟩
  go_wp2
  go_ret3
  exact ⟨rfl, hu'⟩

set_option maxHeartbeats 400000 in
theorem take_f (g o : Nat) (t : TypeId) (cs : Array Value) (s : Ln) (kind seq time a b c : Int) (w : World) (H : Hold w g t cs o s.enc) (hok : s.ok) (ha : -2147483648 ≤ a) (hb : a < 2147483648)
    (c3 : s.late seq time = false) (c1 : 1 ≤ kind) (c2 : kind ≤ 5) (c4 : kind ≠ 2) (c5 : kind ≠ 3) :
    Calls Try.prog 20 #[.pointer (some ⟨g, o, none⟩), frm kind seq time a b c] w (TookR w g t cs o ((s.order seq time).note 6, 6, 0, false)) := by
  have hg := H.lt
  have HH := Lib.hid H
  have HL := Lib.hid c3
  clear c3
  have d1 : (kind == 3) = false := by simpa using c5
  have d2 : (kind == 2) = false := by simpa using c4
  have HO := Lib.hid hok
  clear H hok
  unfold frm
  go_enter Try.func20, Try.ntmps20
  go_wp2_with fail
  refine (order_any g o t cs s kind seq time a b c _ (HH.out.alloc _)).mono ?_
  rintro e w1 ⟨rfl, hu⟩
  rw [HL.out]
  have b0 : w1.cell? ⟨w.heap.size, 0, none⟩ = some (.int .i64 kind) := box_kept hu hg 0 _ rfl
  have b1 : w1.cell? ⟨w.heap.size, 1, none⟩ = some (.int .u16 seq) := box_kept hu hg 1 _ rfl
  have b2 : w1.cell? ⟨w.heap.size, 2, none⟩ = some (.int .u32 time) := box_kept hu hg 2 _ rfl
  have b3 : w1.cell? ⟨w.heap.size, 3, none⟩ = some (.int .i32 a) := box_kept hu hg 3 _ rfl
  have b4 : w1.cell? ⟨w.heap.size, 4, none⟩ = some (.int .i32 b) := box_kept hu hg 4 _ rfl
  have b5 : w1.cell? ⟨w.heap.size, 5, none⟩ = some (.int .i32 c) := box_kept hu hg 5 _ rfl
  have HU := Lib.hid (upd_from hu)
  have HK := Lib.hid (order_ok s seq time HO.out)
  generalize s.order seq time = s1 at *
  have H1 := hu.1
  have h7 : w1.cell? ⟨g, o + 7, none⟩ = some (.int .i64 s1.high) := H1.cell_is rfl
  have h8 : w1.cell? ⟨g, o + 8, none⟩ = some (.int .u32 s1.since) := H1.cell_is rfl
  have h9 : w1.cell? ⟨g, o + 9, none⟩ = some (.bool s1.has) := H1.cell_is rfl
  have f7 : w1.frozen? ⟨g, o + 7, none⟩ = false := H1.frozen _
  have f8 : w1.frozen? ⟨g, o + 8, none⟩ = false := H1.frozen _
  have f9 : w1.frozen? ⟨g, o + 9, none⟩ = false := H1.frozen _
  clear hu H1
  go_wp2_with fail
  refine (note_upd g o t cs s1 6 _ HU.out (by decide) (by decide)).mono ?_
  rintro e w' ⟨rfl, hu'⟩
  go_wp2
  go_ret3
  exact ⟨rfl, hu'⟩

theorem take_any (g o : Nat) (t : TypeId) (cs : Array Value) (s : Ln) (kind seq time a b c : Int) (w : World) (H : Hold w g t cs o s.enc) (hok : s.ok) (ha : -2147483648 ≤ a) (hb : a < 2147483648) :
    Calls Try.prog 20 #[.pointer (some ⟨g, o, none⟩), frm kind seq time a b c] w (TookR w g t cs o (s.take kind seq time a)) := by
  unfold Ln.take
  by_cases c1 : kind < 1
  · rw [if_pos (.inl c1)]; exact take_a g o t cs s kind seq time a b c w H hok ha hb c1
  by_cases c2 : 5 < kind
  · rw [if_pos (.inr c2)]; exact take_b g o t cs s kind seq time a b c w H hok ha hb c2
  rw [if_neg (by omega)]
  rcases Bool.eq_false_or_eq_true (s.late seq time) with c3 | c3
  · rw [if_pos c3]; exact take_c g o t cs s kind seq time a b c w H hok ha hb (by omega) (by omega) c3
  rw [if_neg (by simp [c3])]
  by_cases c4 : kind = 3
  · rw [if_pos c4]; exact take_d g o t cs s kind seq time a b c w H hok ha hb c3 c4
  rw [if_neg c4]
  by_cases c5 : kind = 2
  · rw [if_pos c5]; exact take_e g o t cs s kind seq time a b c w H hok ha hb c3 c5
  rw [if_neg c5]
  exact take_f g o t cs s kind seq time a b c w H hok ha hb c3 (by omega) (by omega) c5 c4

end Go.Proofs.Ytokoopdkofgabaa
