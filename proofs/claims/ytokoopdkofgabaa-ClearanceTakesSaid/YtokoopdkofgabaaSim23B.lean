/- The line of package clearance and the reference's lists answer alike: a frame. -/
import Derived.Test.YtokoopdkofgabaaSim23
namespace Go.Proofs.Ytokoopdkofgabaa
open Go.RowKit

theorem Inv.note {r : Ru} {s : Ln} {q : Q23} (h : Inv r s q) (k : Int) : Inv r (s.note k) q := by
  obtain ⟨a, b, c, d, e, f, g, i, j, k', l, m, n⟩ := h
  unfold Ln.note
  repeat' split
  all_goals exact ⟨a, b, c, d, e, f, g, i, j, k', l, m, n⟩

theorem note_counts (s : Ln) (k : Nat) (hk : k ≤ 6) : (s.note k).counts = s.counts.set k (wrap64 (s.counts.getD k 0 + 1)) := by
  obtain rfl | rfl | rfl | rfl | rfl | rfl | rfl : k = 0 ∨ k = 1 ∨ k = 2 ∨ k = 3 ∨ k = 4 ∨ k = 5 ∨ k = 6 := by omega
  all_goals rfl

theorem order_counts (s : Ln) (seq time : Int) : (s.order seq time).counts = s.counts := by unfold Ln.order; split <;> rfl

theorem radar_note (s : Ln) (time a : Int) : ∃ s' : Ln, s'.counts = s.counts ∧ (s.radar time a).1 = s'.note (s.radar time a).2.1 ∧ 0 ≤ (s.radar time a).2.1 ∧ (s.radar time a).2.1 ≤ 6 := by
  unfold Ln.radar
  split
  · exact ⟨s, rfl, rfl, by simp, by simp⟩
  split
  · exact ⟨s, rfl, rfl, by simp, by simp⟩
  split
  · split
    · exact ⟨{ s with threw := s.threw + 1 }, rfl, rfl, by simp, by simp⟩
    · exact ⟨{ s with last := s.high - a, based := true, threw := 0 }, rfl, rfl, by simp, by simp⟩
  · exact ⟨{ s with last := s.high - a, based := true, threw := 0 }, rfl, rfl, by simp, by simp⟩

theorem take_note (s : Ln) (kind seq time a : Int) : ∃ s' : Ln, s'.counts = s.counts ∧ (s.take kind seq time a).1 = s'.note (s.take kind seq time a).2.1 ∧ 0 ≤ (s.take kind seq time a).2.1 ∧ (s.take kind seq time a).2.1 ≤ 6 := by
  unfold Ln.take
  split
  · exact ⟨s, rfl, rfl, by simp, by simp⟩
  split
  · exact ⟨s, rfl, rfl, by simp, by simp⟩
  split
  · exact ⟨{ s.order seq time with high := a, since := time, has := true }, order_counts s seq time, rfl, by simp, by simp⟩
  split
  · obtain ⟨s', h1, h2, h3⟩ := radar_note (s.order seq time) time a
    exact ⟨s', h1.trans (order_counts s seq time), h2, h3⟩
  · exact ⟨s.order seq time, order_counts s seq time, rfl, by simp, by simp⟩

theorem zsOk_snoc {zs : List Int} {z : Int} (h : zsOk zs) (h1 : -4294967296 ≤ z) (h2 : z ≤ 4294967296) : zsOk (zs ++ [z]) := by
  intro x hx
  simp at hx
  rcases hx with hx | rfl
  · exact h x hx
  · exact ⟨h1, h2⟩

theorem fok_snoc {l : List Fr} {f : Fr} (h : ∀ x ∈ l, x.ok) (hf : f.ok) : ∀ x ∈ l ++ [f], x.ok := by
  intro x hx
  simp at hx
  rcases hx with hx | hx
  · exact h x hx
  · rw [hx]; exact hf

theorem seqAt_last (l : List Fr) (f : Fr) : seqAt (l ++ [f]) ((l ++ [f]).length - 1) = f.seq := by simp [seqAt]
theorem timeAt_last (l : List Fr) (f : Fr) : timeAt (l ++ [f]) ((l ++ [f]).length - 1) = f.time := by simp [timeAt]
theorem timeAt_snoc (l : List Fr) (f : Fr) (k : Nat) (hk : k < l.length) : timeAt (l ++ [f]) k = timeAt l k := by simp [timeAt, List.getElem?_append_left hk]
theorem timeAt_end (l : List Fr) (f : Fr) : timeAt (l ++ [f]) l.length = f.time := by simp [timeAt]
theorem aAt_snoc (l : List Fr) (f : Fr) (k : Nat) (hk : k < l.length) : aAt (l ++ [f]) k = aAt l k := by simp [aAt, List.getElem?_append_left hk]
theorem aAt_end (l : List Fr) (f : Fr) : aAt (l ++ [f]) l.length = f.a := by simp [aAt]

theorem baroIdx_bd (l : List Fr) : -1 ≤ baroIdx l ∧ baroIdx l < l.length := lastIdx_bd _ _
theorem groundIdx_bd (l : List Fr) (ws : List Int) : -1 ≤ groundIdx l ws ∧ groundIdx l ws < l.length := lastIdx_bd _ _

/-- A frame that is in order and is no range is kept: the line goes on. -/
theorem inv_other {r : Ru} {s : Ln} {q : Q23} {f : Fr} (h : Inv r s q) (hf : f.ok) (hl : s.late f.seq f.time = false) (k3 : f.kind ≠ 3) (k2 : f.kind ≠ 2) (u z : Int) (hu : u ≠ 4) (hz : -4294967296 ≤ z ∧ z ≤ 4294967296) :
    Inv r (s.order f.seq f.time) ⟨q.l ++ [f], q.ws ++ [u], q.zs ++ [z]⟩ := by
  have eo : s.order f.seq f.time = { s with any := true, seq := f.seq, time := f.time } := by simp [Ln.order, hl]
  rw [eo]
  have bb := baroIdx_bd q.l
  have gb := groundIdx_bd q.l q.ws
  have e3 : baroIdx (q.l ++ [f]) = baroIdx q.l := by rw [baroIdx_snoc, if_neg k3]
  have hg : (f.kind == 2 && (u == 0 || u == 5)) = false := by simp [k2]
  have e2 : groundIdx (q.l ++ [f]) (q.ws ++ [u]) = groundIdx q.l q.ws := by rw [groundIdx_snoc _ _ _ _ h.lw, if_neg (by rw [hg]; exact Bool.false_ne_true)]
  have e4 : threwOf (q.l ++ [f]) (q.ws ++ [u]) = threwOf q.l q.ws := by rw [threwOf_more _ _ _ _ h.lw hg, if_neg hu]; omega
  refine ⟨h.ru, by simp [h.lw], by simp [h.lz], ?_, zsOk_snoc h.zok hz.1 hz.2, by simp, ?_, ?_, ?_, ?_, ?_, h.hok, h.tle⟩
  · exact fok_snoc h.fok hf
  · intro _; exact ⟨(seqAt_last _ _).symm, (timeAt_last _ _).symm⟩
  · simp only [e3]; exact h.shas
  · intro hb; simp only [e3] at hb ⊢
    rw [aAt_snoc _ _ _ (by omega), timeAt_snoc _ _ _ (by omega)]; exact h.high hb
  · simp only [e2]; exact h.sbased
  · intro hb; simp only [e2, e4] at hb ⊢
    rw [getD_snoc _ _ _ (by rw [h.lz]; omega)]; exact h.last hb

theorem inv_baro {r : Ru} {s : Ln} {q : Q23} {f : Fr} (h : Inv r s q) (hf : f.ok) (hl : s.late f.seq f.time = false) (k3 : f.kind = 3) :
    Inv r { s.order f.seq f.time with high := f.a, since := f.time, has := true } ⟨q.l ++ [f], q.ws ++ [0], q.zs ++ [0]⟩ := by
  have eo : s.order f.seq f.time = { s with any := true, seq := f.seq, time := f.time } := by simp [Ln.order, hl]
  rw [eo]
  have gb := groundIdx_bd q.l q.ws
  have e3 : baroIdx (q.l ++ [f]) = q.l.length := by rw [baroIdx_snoc, if_pos k3]
  have hg : (f.kind == 2 && ((0 : Int) == 0 || (0 : Int) == 5)) = false := by simp [k3]
  have e2 : groundIdx (q.l ++ [f]) (q.ws ++ [0]) = groundIdx q.l q.ws := by rw [groundIdx_snoc _ _ _ _ h.lw, if_neg (by rw [hg]; exact Bool.false_ne_true)]
  have e4 : threwOf (q.l ++ [f]) (q.ws ++ [0]) = threwOf q.l q.ws := by rw [threwOf_more _ _ _ _ h.lw hg, if_neg (by decide)]; omega
  obtain ⟨o1, o2, o3, o4, o5, o6, o7⟩ := h.hok
  obtain ⟨f1, f2, f3, f4, f5, f6⟩ := hf
  refine ⟨h.ru, by simp [h.lw], by simp [h.lz], ?_, zsOk_snoc h.zok (by decide) (by decide), by simp, ?_, ?_, ?_, ?_, ?_, ⟨f5, f6, o3, o4, o5, o6, o7⟩, h.tle⟩
  · exact fok_snoc h.fok ⟨f1, f2, f3, f4, f5, f6⟩
  · intro _; exact ⟨(seqAt_last _ _).symm, (timeAt_last _ _).symm⟩
  · simp only [e3]; symm; simp
  · intro _; simp only [e3, Int.toNat_natCast]; exact ⟨(aAt_end _ _).symm, (timeAt_end _ _).symm⟩
  · simp only [e2]; exact h.sbased
  · intro hb; simp only [e2, e4] at hb ⊢
    rw [getD_snoc _ _ _ (by rw [h.lz]; omega)]; exact h.last hb

/-- What becomes of a range, and the ground, are the reference's. -/
theorem radar_eq {r : Ru} {s : Ln} {q : Q23} {f : Fr} (h : Inv r s q) :
    (s.radar f.time f.a).2.1 = (refRadar r.jump r.throw r.most r.age q.l q.ws q.zs f.time f.a).1 ∧ (s.radar f.time f.a).2.2.1 = (refRadar r.jump r.throw r.most r.age q.l q.ws q.zs f.time f.a).2 ∧
      (s.radar f.time f.a).2.2.2 = ((refRadar r.jump r.throw r.most r.age q.l q.ws q.zs f.time f.a).1 == 0 || (refRadar r.jump r.throw r.most r.age q.l q.ws q.zs f.time f.a).1 == 5) := by
  obtain ⟨r1, r2, r3, r4⟩ := h.ru
  unfold Ln.radar refRadar
  rw [r4, r1, r2, r3]
  by_cases c1 : f.a < 0 ∨ r.most < f.a
  · rw [if_pos c1, if_pos c1]; exact ⟨rfl, rfl, rfl⟩
  rw [if_neg c1, if_neg c1]
  have bb := baroIdx_bd q.l
  have gb := groundIdx_bd q.l q.ws
  by_cases c2 : baroIdx q.l < 0
  · rw [if_pos (.inl (by rw [h.shas]; simp; omega)), if_pos (.inl c2)]; exact ⟨rfl, rfl, rfl⟩
  obtain ⟨e1, e2⟩ := h.high (by omega)
  rw [e1, e2]
  have hh : s.has = true := by rw [h.shas]; simp; omega
  by_cases c3 : r.age < (f.time - timeAt q.l (baroIdx q.l).toNat) % 4294967296
  · rw [if_pos (.inr c3), if_pos (.inr c3)]; exact ⟨rfl, rfl, rfl⟩
  have g1 : ¬(s.has = false ∨ r.age < (f.time - timeAt q.l (baroIdx q.l).toNat) % 4294967296) := by rw [hh]; simp; omega
  have g2 : ¬(baroIdx q.l < 0 ∨ r.age < (f.time - timeAt q.l (baroIdx q.l).toNat) % 4294967296) := by omega
  rw [if_neg g1, if_neg g2]
  by_cases c4 : groundIdx q.l q.ws < 0
  · have hbs : s.based = false := by rw [h.sbased]; simp; omega
    have g3 : ¬(s.based = true ∧ (r.jump < aAt q.l (baroIdx q.l).toNat - f.a - s.last ∨ aAt q.l (baroIdx q.l).toNat - f.a - s.last < -r.jump)) := by rw [hbs]; simp
    rw [if_neg g3, if_pos (.inl c4)]; exact ⟨rfl, rfl, rfl⟩
  obtain ⟨e3, e4⟩ := h.last (by omega)
  have hbs : s.based = true := by rw [h.sbased]; simp; omega
  rw [e3, e4, hbs]
  by_cases c5 : r.jump < aAt q.l (baroIdx q.l).toNat - f.a - q.zs.getD (groundIdx q.l q.ws).toNat 0 ∨ aAt q.l (baroIdx q.l).toNat - f.a - q.zs.getD (groundIdx q.l q.ws).toNat 0 < -r.jump
  · have g4 : ¬(groundIdx q.l q.ws < 0 ∨ (aAt q.l (baroIdx q.l).toNat - f.a - q.zs.getD (groundIdx q.l q.ws).toNat 0 ≤ r.jump ∧ q.zs.getD (groundIdx q.l q.ws).toNat 0 - (aAt q.l (baroIdx q.l).toNat - f.a) ≤ r.jump)) := by omega
    rw [if_pos ⟨rfl, c5⟩, if_neg g4]
    by_cases c6 : threwOf q.l q.ws < r.throw
    · rw [if_pos c6, if_pos c6]; exact ⟨rfl, rfl, rfl⟩
    · rw [if_neg c6, if_neg c6]; exact ⟨rfl, rfl, rfl⟩
  · have g4 : groundIdx q.l q.ws < 0 ∨ (aAt q.l (baroIdx q.l).toNat - f.a - q.zs.getD (groundIdx q.l q.ws).toNat 0 ≤ r.jump ∧ q.zs.getD (groundIdx q.l q.ws).toNat 0 - (aAt q.l (baroIdx q.l).toNat - f.a) ≤ r.jump) := by omega
    have g5 : ¬(true = true ∧ (r.jump < aAt q.l (baroIdx q.l).toNat - f.a - q.zs.getD (groundIdx q.l q.ws).toNat 0 ∨ aAt q.l (baroIdx q.l).toNat - f.a - q.zs.getD (groundIdx q.l q.ws).toNat 0 < -r.jump)) := by rintro ⟨_, h9⟩; exact c5 h9
    rw [if_neg g5, if_pos g4]; exact ⟨rfl, rfl, rfl⟩

/-- The line behind a range, told by what became of it. -/
def Ln.after (s : Ln) (a what : Int) : Ln :=
  if what = 4 then { s with threw := s.threw + 1 } else if what = 0 ∨ what = 5 then { s with last := s.high - a, based := true, threw := 0 } else s

theorem radar_after (s : Ln) (time a : Int) : (s.radar time a).1 = (s.after a (s.radar time a).2.1).note (s.radar time a).2.1 := by
  unfold Ln.radar
  split
  · rfl
  split
  · rfl
  split
  · split <;> rfl
  · rfl

theorem radar_z (s : Ln) (time a : Int) : ((s.radar time a).2.1 = 0 ∨ (s.radar time a).2.1 = 5 → (s.radar time a).2.2.1 = s.high - a ∧ s.has = true ∧ 0 ≤ a ∧ a ≤ s.most) ∧ ((s.radar time a).2.1 = 4 → s.threw < s.throw ∧ s.based = true) ∧
    ((s.radar time a).2.1 = 0 ∨ (s.radar time a).2.1 = 5 ∨ (s.radar time a).2.2.1 = 0) := by
  unfold Ln.radar
  split
  · simp
  split
  · simp
  rename_i h1 h2
  simp at h2
  split
  · split
    · simp; rename_i h3 h4; exact ⟨h4, h3.1⟩
    · simp; exact ⟨h2.1, by omega, by omega⟩
  · simp; exact ⟨h2.1, by omega, by omega⟩

theorem inv_radar {r : Ru} {s : Ln} {q : Q23} {f : Fr} (hr : r.ok) (h : Inv r s q) (hf : f.ok) (hl : s.late f.seq f.time = false) (k2 : f.kind = 2) :
    Inv r ((s.order f.seq f.time).radar f.time f.a).1 ⟨q.l ++ [f], q.ws ++ [((s.order f.seq f.time).radar f.time f.a).2.1], q.zs ++ [((s.order f.seq f.time).radar f.time f.a).2.2.1]⟩ := by
  have eo : s.order f.seq f.time = { s with any := true, seq := f.seq, time := f.time } := by simp [Ln.order, hl]
  have hs := h
  rw [radar_after]
  apply Inv.note
  obtain ⟨z1, z2, z3⟩ := radar_z (s.order f.seq f.time) f.time f.a
  generalize (s.order f.seq f.time).radar f.time f.a = R at *
  obtain ⟨s9, u, z, is⟩ := R
  simp only at z1 z2 z3 ⊢
  rw [eo] at z1 z2 ⊢
  simp only at z1 z2
  have bb := baroIdx_bd q.l
  have gb := groundIdx_bd q.l q.ws
  have e3 : baroIdx (q.l ++ [f]) = baroIdx q.l := by rw [baroIdx_snoc, if_neg (by omega)]
  obtain ⟨o1, o2, o3, o4, o5, o6, o7⟩ := h.hok
  obtain ⟨t1, t2, t3, t4, t5⟩ := hr
  obtain ⟨r1, r2, r3, r4⟩ := h.ru
  have fok' := fok_snoc h.fok hf
  have sq' : 0 < (q.l ++ [f]).length → f.seq = seqAt (q.l ++ [f]) ((q.l ++ [f]).length - 1) ∧ f.time = timeAt (q.l ++ [f]) ((q.l ++ [f]).length - 1) := fun _ => ⟨(seqAt_last _ _).symm, (timeAt_last _ _).symm⟩
  have high' : 0 ≤ baroIdx (q.l ++ [f]) → s.high = aAt (q.l ++ [f]) (baroIdx (q.l ++ [f])).toNat ∧ s.since = timeAt (q.l ++ [f]) (baroIdx (q.l ++ [f])).toNat := by
    intro hb; rw [e3] at hb ⊢; rw [aAt_snoc _ _ _ (by omega), timeAt_snoc _ _ _ (by omega)]; exact h.high hb
  unfold Ln.after
  by_cases u4 : u = 4
  · rw [if_pos u4]
    obtain ⟨q1, q2⟩ := z2 u4
    have hz0 : z = 0 := by rcases z3 with a | a | a <;> omega
    have hg : (f.kind == 2 && (u == 0 || u == 5)) = false := by simp [u4]
    have e2 : groundIdx (q.l ++ [f]) (q.ws ++ [u]) = groundIdx q.l q.ws := by rw [groundIdx_snoc _ _ _ _ h.lw, if_neg (by rw [hg]; exact Bool.false_ne_true)]
    have e4 : threwOf (q.l ++ [f]) (q.ws ++ [u]) = threwOf q.l q.ws + 1 := by rw [threwOf_more _ _ _ _ h.lw hg, if_pos u4]
    refine ⟨h.ru, by simp [h.lw], by simp [h.lz], fok', zsOk_snoc h.zok (by omega) (by omega), by simp, sq', by simp only [e3]; exact h.shas, high', by simp only [e2]; exact h.sbased, ?_, ⟨o1, o2, o3, o4, o5, by simp only; omega, by simp only; omega⟩, by simp only; omega⟩
    intro hb; simp only [e2, e4] at hb ⊢
    obtain ⟨l1, l2⟩ := h.last hb
    rw [getD_snoc _ _ _ (by rw [h.lz]; omega)]; exact ⟨l1, by omega⟩
  · rw [if_neg u4]
    by_cases u05 : u = 0 ∨ u = 5
    · rw [if_pos u05]
      obtain ⟨q1, q2, q3, q4⟩ := z1 u05
      have hg : (f.kind == 2 && (u == 0 || u == 5)) = true := by simp [k2]; omega
      have e2 : groundIdx (q.l ++ [f]) (q.ws ++ [u]) = q.l.length := by rw [groundIdx_snoc _ _ _ _ h.lw, if_pos hg]
      have e4 : threwOf (q.l ++ [f]) (q.ws ++ [u]) = 0 := threwOf_ground _ _ _ _ h.lw hg
      refine ⟨h.ru, by simp [h.lw], by simp [h.lz], fok', zsOk_snoc h.zok (by omega) (by omega), by simp, sq', by simp only [e3]; exact h.shas, high', by simp only [e2]; symm; simp, ?_, ⟨o1, o2, by simp only; omega, by simp only; omega, o5, by simp, by simp⟩, by simp only; omega⟩
      intro hb; simp only [e2, e4, Int.toNat_natCast] at hb ⊢
      rw [← h.lz, getD_last]; exact ⟨q1.symm, trivial⟩
    · rw [if_neg u05]
      have hz0 : z = 0 := by rcases z3 with a | a | a <;> omega
      have hg : (f.kind == 2 && (u == 0 || u == 5)) = false := by simp; omega
      have e2 : groundIdx (q.l ++ [f]) (q.ws ++ [u]) = groundIdx q.l q.ws := by rw [groundIdx_snoc _ _ _ _ h.lw, if_neg (by rw [hg]; exact Bool.false_ne_true)]
      have e4 : threwOf (q.l ++ [f]) (q.ws ++ [u]) = threwOf q.l q.ws := by rw [threwOf_more _ _ _ _ h.lw hg, if_neg u4]; omega
      refine ⟨h.ru, by simp [h.lw], by simp [h.lz], fok', zsOk_snoc h.zok (by omega) (by omega), by simp, sq', by simp only [e3]; exact h.shas, high', by simp only [e2]; exact h.sbased, ?_, h.hok, h.tle⟩
      intro hb; simp only [e2, e4] at hb ⊢
      rw [getD_snoc _ _ _ (by rw [h.lz]; omega)]; exact h.last hb

theorem order_inv_ru (s : Ln) (seq time : Int) : (s.order seq time).age = s.age ∧ (s.order seq time).jump = s.jump ∧ (s.order seq time).throw = s.throw ∧ (s.order seq time).most = s.most := by
  unfold Ln.order; split <;> exact ⟨rfl, rfl, rfl, rfl⟩

theorem radar_order (s : Ln) (seq time t a : Int) : ((s.order seq time).radar t a).2 = (s.radar t a).2 := by
  unfold Ln.order
  split
  · rfl
  · unfold Ln.radar
    simp only
    split
    · rfl
    split
    · rfl
    split
    · split <;> rfl
    · rfl

/-- ONE FRAME: both answer alike, and go on alike. -/
theorem sim_step {r : Ru} {s : Ln} {q : Q23} {f : Fr} (hr : r.ok) (h : Inv r s q) (hf : f.ok) :
    (s.take f.kind f.seq f.time f.a).2 = (refTake r q f).2 ∧ Inv r (s.take f.kind f.seq f.time f.a).1 (refTake r q f).1 := by
  unfold Ln.take refTake
  by_cases c1 : f.kind < 1 ∨ 5 < f.kind
  · rw [if_pos c1, if_pos c1]; exact ⟨rfl, h.note 2⟩
  rw [if_neg c1, if_neg c1, late_eq r s q f hf h]
  rcases Bool.eq_false_or_eq_true (lateOf q.l f.seq f.time) with c3 | c3
  · refine ⟨?_, ?_⟩
    · simp only [c3, if_true]
    · simp only [c3, if_true]; exact h.note 1
  have hl : s.late f.seq f.time = false := (late_eq r s q f hf h).trans c3
  rw [c3]
  simp only [Bool.false_eq_true, if_false]
  unfold refWhat
  by_cases k3 : f.kind = 3
  · rw [if_pos k3, if_pos k3]
    exact ⟨by simp [k3], (inv_baro h hf hl k3).note 0⟩
  rw [if_neg k3, if_neg k3]
  by_cases k2 : f.kind = 2
  · rw [if_pos k2, if_pos k2]
    obtain ⟨e1, e2, e3⟩ := radar_eq (f := f) h
    have hi := inv_radar hr h hf hl k2
    have ho := radar_order s f.seq f.time f.time f.a
    rw [show ((s.order f.seq f.time).radar f.time f.a).2.1 = (s.radar f.time f.a).2.1 from by rw [ho], show ((s.order f.seq f.time).radar f.time f.a).2.2.1 = (s.radar f.time f.a).2.2.1 from by rw [ho], e1, e2] at hi
    refine ⟨?_, hi⟩
    rw [ho]
    simp only [k2, beq_self_eq_true, Bool.true_and]
    rw [← e3, ← e1, ← e2]
  · rw [if_neg k2, if_neg k2]
    exact ⟨by simp [k2], (inv_other h hf hl k3 k2 6 0 (by decide) (by decide)).note 6⟩
end Go.Proofs.Ytokoopdkofgabaa
