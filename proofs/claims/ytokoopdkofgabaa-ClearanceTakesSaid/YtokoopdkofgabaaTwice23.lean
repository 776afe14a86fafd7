/- What comes twice counts once: the plain law. -/
import Derived.Test.YtokoopdkofgabaaMade23
namespace Go.Proofs.Ytokoopdkofgabaa
open Go.RowKit

/-- A line without its counts. -/
def Ln.core (s : Ln) : Ln := { s with c0 := 0, c1 := 0, c2 := 0, c3 := 0, c4 := 0, c5 := 0, c6 := 0 }

theorem core_note (s : Ln) (k : Int) : (s.note k).core = s.core := by
  unfold Ln.note
  repeat' split
  all_goals rfl

theorem radar_like {s t : Ln} (h : s.core = t.core) (time a : Int) : (s.radar time a).2 = (t.radar time a).2 ∧ (s.radar time a).1.core = (t.radar time a).1.core := by
  obtain ⟨age, jump, throw, most, any, seq, tm, high, since, has, last, based, threw, c0, c1, c2, c3, c4, c5, c6⟩ := s
  obtain ⟨age', jump', throw', most', any', seq', tm', high', since', has', last', based', threw', d0, d1, d2, d3, d4, d5, d6⟩ := t
  simp only [Ln.core, Ln.mk.injEq] at h
  obtain ⟨rfl, rfl, rfl, rfl, rfl, rfl, rfl, rfl, rfl, rfl, rfl, rfl, rfl, -⟩ := h
  unfold Ln.radar
  simp only
  by_cases h1 : a < 0 ∨ most < a
  · simp only [if_pos h1, core_note]; exact ⟨trivial, rfl⟩
  simp only [if_neg h1]
  by_cases h2 : has = false ∨ age < (time - since) % 4294967296
  · simp only [if_pos h2, core_note]; exact ⟨trivial, rfl⟩
  simp only [if_neg h2]
  by_cases h3 : based = true ∧ (jump < high - a - last ∨ high - a - last < -jump)
  · simp only [if_pos h3]
    by_cases h4 : threw < throw
    · simp only [if_pos h4, core_note]; exact ⟨trivial, rfl⟩
    · simp only [if_neg h4, core_note]; exact ⟨trivial, rfl⟩
  · simp only [if_neg h3, core_note]; exact ⟨trivial, rfl⟩

theorem order_like {s t : Ln} (h : s.core = t.core) (seq time : Int) : s.late seq time = t.late seq time ∧ (s.order seq time).core = (t.order seq time).core := by
  obtain ⟨age, jump, throw, most, any, sq, tm, high, since, has, last, based, threw, c0, c1, c2, c3, c4, c5, c6⟩ := s
  obtain ⟨age', jump', throw', most', any', sq', tm', high', since', has', last', based', threw', d0, d1, d2, d3, d4, d5, d6⟩ := t
  simp only [Ln.core, Ln.mk.injEq] at h
  obtain ⟨rfl, rfl, rfl, rfl, rfl, rfl, rfl, rfl, rfl, rfl, rfl, rfl, rfl, -⟩ := h
  refine ⟨rfl, ?_⟩
  unfold Ln.order
  by_cases h1 : Ln.late ⟨age, jump, throw, most, any, sq, tm, high, since, has, last, based, threw, c0, c1, c2, c3, c4, c5, c6⟩ seq time = true
  · have h2 : Ln.late ⟨age, jump, throw, most, any, sq, tm, high, since, has, last, based, threw, d0, d1, d2, d3, d4, d5, d6⟩ seq time = true := h1
    rw [if_pos h1, if_pos h2]; rfl
  · have h2 : ¬ Ln.late ⟨age, jump, throw, most, any, sq, tm, high, since, has, last, based, threw, d0, d1, d2, d3, d4, d5, d6⟩ seq time = true := h1
    rw [if_neg h1, if_neg h2]; rfl

theorem core_set {s t : Ln} (h : s.core = t.core) (a time : Int) : ({ s with high := a, since := time, has := true } : Ln).core = ({ t with high := a, since := time, has := true } : Ln).core := by
  obtain ⟨age, jump, throw, most, any, sq, tm, high, since, has, last, based, threw, c0, c1, c2, c3, c4, c5, c6⟩ := s
  obtain ⟨age', jump', throw', most', any', sq', tm', high', since', has', last', based', threw', d0, d1, d2, d3, d4, d5, d6⟩ := t
  simp only [Ln.core, Ln.mk.injEq] at h
  obtain ⟨rfl, rfl, rfl, rfl, rfl, rfl, rfl, rfl, rfl, rfl, rfl, rfl, rfl, -⟩ := h
  rfl

/-- What a frame does hangs on no count. -/
theorem take_like {s t : Ln} (h : s.core = t.core) (kind seq time a : Int) : (s.take kind seq time a).2 = (t.take kind seq time a).2 ∧ (s.take kind seq time a).1.core = (t.take kind seq time a).1.core := by
  obtain ⟨hl, ho⟩ := order_like h seq time
  unfold Ln.take
  by_cases h1 : kind < 1 ∨ 5 < kind
  · simp only [if_pos h1, core_note]; exact ⟨trivial, h⟩
  simp only [if_neg h1, hl]
  by_cases h2 : t.late seq time = true
  · simp only [if_pos h2, core_note]; exact ⟨trivial, h⟩
  simp only [if_neg h2]
  by_cases h3 : kind = 3
  · simp only [if_pos h3, core_note]; exact ⟨trivial, core_set ho a time⟩
  simp only [if_neg h3]
  by_cases h4 : kind = 2
  · simp only [if_pos h4]; exact radar_like ho time a
  · simp only [if_neg h4, core_note]; exact ⟨trivial, ho⟩

theorem late_self (s : Ln) (seq time : Int) (h1 : s.any = true) (h2 : s.seq = seq) : s.late seq time = true := by
  unfold Ln.late newerB
  rw [h1, h2]; simp

theorem core_any {s t : Ln} (h : s.core = t.core) : s.any = t.any ∧ s.seq = t.seq := by
  have e1 : s.core.any = t.core.any := by rw [h]
  have e2 : s.core.seq = t.core.seq := by rw [h]
  exact ⟨e1, e2⟩

theorem radar_keeps (s : Ln) (time a : Int) : (s.radar time a).1.any = s.any ∧ (s.radar time a).1.seq = s.seq := by
  have h := radar_after s time a
  have h2 : (s.after a (s.radar time a).2.1).any = s.any ∧ (s.after a (s.radar time a).2.1).seq = s.seq := by
    unfold Ln.after
    repeat' split
    all_goals exact ⟨rfl, rfl⟩
  have h3 := core_any (core_note (s.after a (s.radar time a).2.1) (s.radar time a).2.1)
  rw [h]
  exact ⟨h3.1.trans h2.1, h3.2.trans h2.2⟩

/-- The same frame again: too late, or of no kind; nothing but a count turns. -/
theorem take_again (s : Ln) (kind seq time a : Int) :
    ((s.take kind seq time a).1.take kind seq time a).2.2.2 = false ∧ (((s.take kind seq time a).1.take kind seq time a).2.1 = if kind < 1 ∨ 5 < kind then 2 else 1) ∧
      ((s.take kind seq time a).1.take kind seq time a).1.core = (s.take kind seq time a).1.core := by
  by_cases h1 : kind < 1 ∨ 5 < kind
  · have e : ∀ u : Ln, u.take kind seq time a = (u.note 2, 2, 0, false) := fun u => by unfold Ln.take; rw [if_pos h1]
    rw [e, e]; simp only [if_pos h1, core_note]; exact ⟨trivial, trivial, trivial⟩
  have e : ∀ u : Ln, u.late seq time = true → u.take kind seq time a = (u.note 1, 1, 0, false) := fun u hu => by unfold Ln.take; rw [if_neg h1, if_pos hu]
  have hl : (s.take kind seq time a).1.late seq time = true := by
    rcases Bool.eq_false_or_eq_true (s.late seq time) with hu | hu
    · rw [e s hu]
      exact ((order_like (core_note s 1) seq time).1).trans hu
    · have ho : (s.order seq time).any = true ∧ (s.order seq time).seq = seq := by unfold Ln.order; rw [if_neg (by simp [hu])]; exact ⟨rfl, rfl⟩
      apply late_self
      all_goals
        unfold Ln.take
        rw [if_neg h1, if_neg (by simp [hu])]
        by_cases h3 : kind = 3
        · rw [if_pos h3]
          have := core_any (core_note ({ s.order seq time with high := a, since := time, has := true } : Ln) 0)
          first | exact this.1.trans ho.1 | exact this.2.trans ho.2
        rw [if_neg h3]
        by_cases h4 : kind = 2
        · rw [if_pos h4]
          have := radar_keeps (s.order seq time) time a
          first | exact this.1.trans ho.1 | exact this.2.trans ho.2
        · rw [if_neg h4]
          have := core_any (core_note (s.order seq time) 6)
          first | exact this.1.trans ho.1 | exact this.2.trans ho.2
  rw [e _ hl]
  simp only [if_neg h1, core_note]
  exact ⟨trivial, trivial, trivial⟩

/-- The bounds stay. -/
theorem take_ok {s : Ln} (kind seq time a : Int) (h : s.ok) (ht : s.throw ≤ 100) (hm : s.most ≤ 1048576) (ha : -2147483648 ≤ a) (hb : a < 2147483648) :
    (s.take kind seq time a).1.ok ∧ (s.take kind seq time a).1.throw = s.throw ∧ (s.take kind seq time a).1.most = s.most := by
  have nt : ∀ (u : Ln) (k : Int), u.ok → (u.note k).ok ∧ (u.note k).throw = u.throw ∧ (u.note k).most = u.most := fun u k hu => by
    unfold Ln.note
    repeat' split
    all_goals exact ⟨hu, rfl, rfl⟩
  have ho : (s.order seq time).ok ∧ (s.order seq time).throw = s.throw ∧ (s.order seq time).most = s.most := by
    refine ⟨order_ok s seq time h, ?_, ?_⟩ <;> (unfold Ln.order; split <;> rfl)
  obtain ⟨o, ot, om⟩ := ho
  unfold Ln.take
  split
  · exact nt s 2 h
  split
  · exact nt s 1 h
  split
  · obtain ⟨o1, o2, o3, o4, o5, o6, o7⟩ := o
    have := nt { s.order seq time with high := a, since := time, has := true } 0 ⟨ha, hb, o3, o4, o5, o6, o7⟩
    exact ⟨this.1, this.2.1.trans ot, this.2.2.trans om⟩
  split
  · generalize s.order seq time = u at *
    obtain ⟨z1, z2, z3⟩ := radar_z u time a
    rw [radar_after]
    have ha' : (u.after a (u.radar time a).2.1).ok ∧ (u.after a (u.radar time a).2.1).throw = u.throw ∧ (u.after a (u.radar time a).2.1).most = u.most := by
      obtain ⟨o1, o2, o3, o4, o5, o6, o7⟩ := o
      unfold Ln.after
      split
      · rename_i h4
        obtain ⟨q1, q2⟩ := z2 h4
        exact ⟨⟨o1, o2, o3, o4, o5, by simp only; omega, by simp only; omega⟩, rfl, rfl⟩
      split
      · rename_i h5
        obtain ⟨q1, q2, q3, q4⟩ := z1 h5
        exact ⟨⟨o1, o2, by simp only; omega, by simp only; omega, o5, by simp, by simp⟩, rfl, rfl⟩
      · exact ⟨⟨o1, o2, o3, o4, o5, o6, o7⟩, rfl, rfl⟩
    have := nt _ (u.radar time a).2.1 ha'.1
    exact ⟨this.1, (this.2.1.trans ha'.2.1).trans ot, (this.2.2.trans ha'.2.2).trans om⟩
  · have := nt (s.order seq time) 6 o
    exact ⟨this.1, this.2.1.trans ot, this.2.2.trans om⟩
end Go.Proofs.Ytokoopdkofgabaa
