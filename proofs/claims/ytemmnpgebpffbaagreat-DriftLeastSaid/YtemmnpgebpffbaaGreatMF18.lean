
import Derived.Test.YtemmnpgebpffbaaGreatMF17
set_option linter.unusedVariables false
set_option linter.unusedSimpArgs false
/- Drifting, the plain part: from the last height on back; what a given way costs. -/
namespace Go.Proofs.YtemmnpgebpffbaaGreat
instance (far : Int) (a b : Nat) : Decidable (nearP far a b) := by unfold nearP; infer_instance
/-- The best of the first so many steps to go on by. -/
def nxtTo (t far : Int) (rest : Nat → Int) (c : Int) (a : Nat) : Nat → Int
  | 0 => -1
  | b + 1 => if nearP far a b ∧ 0 ≤ rest b then
      (if nxtTo t far rest c a b < 0 ∨ c + dstP far a b * t + rest b < nxtTo t far rest c a b then c + dstP far a b * t + rest b else nxtTo t far rest c a b)
    else nxtTo t far rest c a b
def bckC (t far : Int) (N : Nat) (rest : Option (Nat → Int)) (c : Int) (a : Nat) : Int := if c < 0 then -1 else
  match rest with
  | none => c
  | some r => nxtTo t far r c a N
/-- From the last height on back: what is the least from a step on. -/
def bck (t far : Int) (N : Nat) (cst : Nat → Nat → Int) (L : Nat) : Nat → Nat → Int
  | 0, a => bckC t far N none (cst (L - 1) a) a
  | k + 1, a => bckC t far N (some (bck t far N cst L k)) (cst (L - 1 - (k + 1)) a) a
def bsv (g : Nat → Int) : Nat → Int
  | 0 => -1
  | a + 1 => if 0 ≤ g a ∧ (bsv g a < 0 ∨ g a < bsv g a) then g a else bsv g a
theorem nxt_ex {t far : Int} {rest : Nat → Int} {c : Int} {a : Nat} : ∀ n, nxtTo t far rest c a n = -1 ∨ ∃ b, b < n ∧ nearP far a b ∧ 0 ≤ rest b ∧ nxtTo t far rest c a n = c + dstP far a b * t + rest b
  | 0 => .inl rfl
  | n + 1 => by
    have ih := nxt_ex (t := t) (far := far) (rest := rest) (c := c) (a := a) n
    have up : nxtTo t far rest c a n = -1 ∨ ∃ b, b < n + 1 ∧ nearP far a b ∧ 0 ≤ rest b ∧ nxtTo t far rest c a n = c + dstP far a b * t + rest b := by
      rcases ih with h | ⟨b, h1, h2⟩
      · exact .inl h
      · exact .inr ⟨b, by omega, h2⟩
    rw [nxtTo]
    split
    · rename_i h
      split
      · exact .inr ⟨n, by omega, h.1, h.2, rfl⟩
      · exact up
    · exact up
theorem nxt_le {t far : Int} (ht : 0 ≤ t) {rest : Nat → Int} {c : Int} (hc : 0 ≤ c) {a : Nat} : ∀ n b, b < n → nearP far a b → 0 ≤ rest b → 0 ≤ nxtTo t far rest c a n ∧ nxtTo t far rest c a n ≤ c + dstP far a b * t + rest b
  | n + 1, b, hb, hn, hr => by
    have hpos : ∀ b, 0 ≤ rest b → 0 ≤ c + dstP far a b * t + rest b := fun b hb => by have := Int.mul_nonneg (dstP_pos far a b) ht; omega
    rw [nxtTo]
    rcases Nat.lt_or_ge b n with h | h
    · obtain ⟨i1, i2⟩ := nxt_le ht hc n b h hn hr
      split
      · rename_i h2
        have := hpos n h2.2
        split <;> omega
      · omega
    · obtain rfl : b = n := by omega
      rw [if_pos ⟨hn, hr⟩]
      have := hpos b hr
      split <;> omega
section
variable {far : Int} {N : Nat} {cst : Nat → Nat → Int} {t : Int} {L : Nat}
theorem bck_way (hc : ∀ n a, -1 ≤ cst n a) : ∀ k a, k < L → a < N → bck t far N cst L k a = -1 ∨ ∃ l c u, Way far N cst (L - 1 - k) (a :: l) c u ∧ l.length = k ∧ bck t far N cst L k a = c + u * t
  | 0, a, hk, ha => by
    rw [bck, bckC]
    have h0 := hc (L - 1) a
    split
    · exact .inl rfl
    · exact .inr ⟨[], _, 0, .one ha (by rw [Nat.sub_zero]; omega), rfl, by rw [Nat.sub_zero]; omega⟩
  | k + 1, a, hk, ha => by
    rw [bck, bckC]
    have h0 := hc (L - 1 - (k + 1)) a
    split
    · exact .inl rfl
    rename_i h1
    try dsimp only
    rcases nxt_ex (t := t) (far := far) (rest := bck t far N cst L k) (c := cst (L - 1 - (k + 1)) a) (a := a) N with h | ⟨b, hb, hn, hr, e⟩
    · exact .inl h
    · rcases bck_way hc k b (by omega) hb with h | ⟨l, c, u, w, hl, e2⟩
      · omega
      · refine .inr ⟨b :: l, _, _, .cons ha (by omega) hn (by rw [show L - 1 - (k + 1) + 1 = L - 1 - k by omega]; exact w), by simp [hl], ?_⟩
        rw [e, e2, Int.add_mul]
        omega
theorem bck_le (ht : 0 ≤ t) (hc : ∀ n a, -1 ≤ cst n a) : ∀ k a l c u, k < L → l.length = k → Way far N cst (L - 1 - k) (a :: l) c u → 0 ≤ bck t far N cst L k a ∧ bck t far N cst L k a ≤ c + u * t
  | 0, a, l, c, u, hk, hl, w => by
    obtain rfl : l = [] := List.length_eq_zero_iff.1 hl
    cases w with
    | one h1 h2 =>
      have h0 := hc (L - 1 - 0) a
      rw [Nat.sub_zero] at h0 h2
      rw [bck, bckC, if_neg (by omega), Nat.sub_zero]
      try dsimp only
      omega
  | k + 1, a, l, c, u, hk, hl, w => by
    cases w with
    | one h1 h2 => simp at hl
    | cons h1 h2 h3 h4 =>
      rename_i b r c' u'
      have h0 := hc (L - 1 - (k + 1)) a
      rw [show L - 1 - (k + 1) + 1 = L - 1 - k by omega] at h4
      obtain ⟨i1, i2⟩ := bck_le ht hc k b r c' u' (by omega) (by simpa using hl) h4
      have hb : b < N := h4.mem b (by simp)
      obtain ⟨j1, j2⟩ := nxt_le (far := far) ht (c := cst (L - 1 - (k + 1)) a) (rest := bck t far N cst L k) (by omega) (a := a) N b hb h3 i1
      rw [bck, bckC, if_neg (by omega)]
      try dsimp only
      rw [Int.add_mul]
      omega
theorem bck_neg (ht : 0 ≤ t) (hc : ∀ n a, -1 ≤ cst n a) (k a : Nat) (hk : k < L) (ha : a < N) : bck t far N cst L k a = -1 ∨ 0 ≤ bck t far N cst L k a := by
  rcases bck_way (t := t) hc k a hk ha with h | ⟨l, c, u, w, hl, e⟩
  · exact .inl h
  · exact .inr (bck_le ht hc k a l c u hk hl w).1
theorem bsv_ex (g : Nat → Int) : ∀ n, bsv g n = -1 ∨ ∃ a, a < n ∧ 0 ≤ g a ∧ bsv g n = g a
  | 0 => .inl rfl
  | n + 1 => by
    rw [bsv]
    split
    · rename_i h
      exact .inr ⟨n, by omega, h.1, rfl⟩
    · rcases bsv_ex g n with h | ⟨a, h1, h2⟩
      · exact .inl h
      · exact .inr ⟨a, by omega, h2⟩
theorem bsv_le (g : Nat → Int) : ∀ n a, a < n → 0 ≤ g a → 0 ≤ bsv g n ∧ bsv g n ≤ g a
  | n + 1, a, ha, hg => by
    rw [bsv]
    rcases Nat.lt_or_ge a n with h | h
    · obtain ⟨i1, i2⟩ := bsv_le g n a h hg
      split <;> omega
    · obtain rfl : a = n := by omega
      split <;> omega
/-- From either end it is the same. -/
theorem least_none (ht : 0 ≤ t) (hc : ∀ n a, -1 ≤ cst n a) (hg : ∀ n a, -1 ≤ (tre t far N cst n a).1) {n : Nat} (h : bstG (fun a => (tre t far N cst n a).1) N = none) : bsv (bck t far N cst (n + 1) n) N = -1 := by
  rcases bsv_ex (bck t far N cst (n + 1) n) N with e | ⟨a, ha, h0, e⟩
  · exact e
  · rcases bck_way (t := t) (far := far) (L := n + 1) hc n a (Nat.lt_succ_self n) ha with h1 | ⟨l, c, u, w, hl, e2⟩
    · omega
    · rw [show n + 1 - 1 - n = 0 by omega] at w
      exact absurd w (best_none ht hc hg h (a :: l) c u (by simp [hl]))
theorem least_some (ht : 0 ≤ t) (hc : ∀ n a, -1 ≤ cst n a) (hg : ∀ n a, -1 ≤ (tre t far N cst n a).1) {n b : Nat} (h : bstG (fun a => (tre t far N cst n a).1) N = some b) : bsv (bck t far N cst (n + 1) n) N = (tre t far N cst n b).1 := by
  obtain ⟨c, u, w, e, hmin⟩ := best_some ht hc hg h
  have hpos := w.pos hc
  have hln := bakL_len (tre t far N cst) n b
  obtain ⟨a, l, hal⟩ : ∃ a l, bakL (tre t far N cst) n b = a :: l := by
    cases hb : bakL (tre t far N cst) n b with
    | nil => rw [hb] at hln; simp at hln
    | cons a l => exact ⟨a, l, rfl⟩
  rw [hal] at w hln
  have ha : a < N := w.mem a (by simp)
  have h1 := bck_le (L := n + 1) ht hc n a l c u (Nat.lt_succ_self n) (by simpa using hln) (by rw [show n + 1 - 1 - n = 0 by omega]; exact w)
  have h2 := bsv_le (bck t far N cst (n + 1) n) N a ha h1.1
  rcases bsv_ex (bck t far N cst (n + 1) n) N with e1 | ⟨a1, ha1, h01, e1⟩
  · omega
  · rcases bck_way (t := t) (far := far) (L := n + 1) hc n a1 (Nat.lt_succ_self n) ha1 with h3 | ⟨l1, c1, u1, w1, hl1, e3⟩
    · omega
    · rw [show n + 1 - 1 - n = 0 by omega] at w1
      have := hmin (a1 :: l1) c1 u1 (by simp [hl1]) w1
      omega
theorem bck_bnd (ht : 0 ≤ t ∧ t ≤ 1048576) (hc : ∀ n a, -1 ≤ cst n a ∧ cst n a ≤ 8388608) : ∀ k a, -1 ≤ bck t far N cst L k a ∧ bck t far N cst L k a ≤ 10485760 * ((k : Int) + 1)
  | 0, a => by
    rw [bck, bckC]
    have := hc (L - 1) a
    split <;> (try dsimp only) <;> omega
  | k + 1, a => by
    have ih := bck_bnd ht hc k
    rw [bck, bckC]
    have := hc (L - 1 - (k + 1)) a
    split
    · omega
    try dsimp only
    rcases nxt_ex (t := t) (far := far) (rest := bck t far N cst L k) (c := cst (L - 1 - (k + 1)) a) (a := a) N with h | ⟨b, hb, hn, hr, e⟩
    · rw [h]; omega
    · rw [e]
      have := ih b
      have h2 : dstP far a b ≤ 2 := by obtain ⟨n1, n2⟩ := hn; unfold dstP; omega
      have h3 := Int.mul_le_mul h2 ht.2 ht.1 (by decide)
      have h4 := Int.mul_nonneg (dstP_pos far a b) ht.1
      push_cast
      omega
end
/-- What a way costs that is given: is a step of it right? all of them together. -/
def legOk (far : Int) (off : Nat → Int × Int → Int) (p : Nat → Int × Int) : Nat → Prop
  | 0 => ((-far ≤ (p 0).1 ∧ (p 0).1 ≤ far) ∧ (-far ≤ (p 0).2 ∧ (p 0).2 ≤ far)) ∧ 0 ≤ off 0 (p 0)
  | n + 1 => (((-far ≤ (p (n + 1)).1 ∧ (p (n + 1)).1 ≤ far) ∧ (-far ≤ (p (n + 1)).2 ∧ (p (n + 1)).2 ≤ far)) ∧ 0 ≤ off (n + 1) (p (n + 1))) ∧ absD (p (n + 1)).1 (p n).1 ≤ 1 ∧ absD (p (n + 1)).2 (p n).2 ≤ 1
instance (far : Int) (off : Nat → Int × Int → Int) (p : Nat → Int × Int) : ∀ n, Decidable (legOk far off p n)
  | 0 => by unfold legOk; infer_instance
  | n + 1 => by unfold legOk; infer_instance
def legsOk (far : Int) (off : Nat → Int × Int → Int) (p : Nat → Int × Int) : Nat → Bool
  | 0 => true
  | n + 1 => legsOk far off p n && decide (legOk far off p n)
def legS (t : Int) (off : Nat → Int × Int → Int) (p : Nat → Int × Int) : Nat → Int
  | 0 => 0
  | 1 => off 0 (p 0)
  | n + 2 => legS t off p (n + 1) + off (n + 1) (p (n + 1)) + (absD (p (n + 1)).1 (p n).1 + absD (p (n + 1)).2 (p n).2) * t
theorem legs_le {far : Int} {off : Nat → Int × Int → Int} {p : Nat → Int × Int} {n : Nat} (h : legsOk far off p n = true) : ∀ j, j < n → legOk far off p j := by
  induction n with
  | zero => intro j hj; omega
  | succ n ih =>
    rw [legsOk, Bool.and_eq_true, decide_eq_true_eq] at h
    intro j hj
    rcases Nat.lt_or_ge j n with h1 | h1
    · exact ih h.1 j h1
    · obtain rfl : j = n := by omega
      exact h.2
theorem legs_bad {far : Int} {off : Nat → Int × Int → Int} {p : Nat → Int × Int} {j : Nat} (hb : ¬ legOk far off p j) : ∀ n, j < n → legsOk far off p n = false := by
  intro n hn
  cases h : legsOk far off p n with
  | false => rfl
  | true => exact absurd (legs_le h j hn) hb
def wayC (far t : Int) (off : Nat → Int × Int → Int) (p : Nat → Int × Int) (n : Nat) : Int := if legsOk far off p n then legS t off p n else -1
def tabL (q : Nat → Nat) : Nat → List Nat
  | 0 => []
  | i + 1 => tabL q i ++ [q i]
theorem tabL_len (q : Nat → Nat) : ∀ n, (tabL q n).length = n
  | 0 => rfl
  | n + 1 => by rw [tabL, List.length_append, tabL_len q n]; rfl
theorem tabL_two (q : Nat → Nat) (n : Nat) : tabL q (n + 2) = tabL q n ++ [q n, q (n + 1)] := by rw [tabL, tabL, List.append_assoc]; rfl
theorem tabL_of (l : List Nat) : ∀ n, n ≤ l.length → tabL (fun j => l.getD j 0) n = l.take n
  | 0, _ => by simp [tabL]
  | n + 1, h => by
    rw [tabL, tabL_of l n (by omega), List.take_add_one, List.getD_eq_getElem?_getD, List.getElem?_eq_getElem (show n < l.length by omega)]
    rfl
section
variable {far : Int} {N : Nat} {cst : Nat → Nat → Int} {t : Int} {off : Nat → Int × Int → Int} {p : Nat → Int × Int} {q : Nat → Nat}
/-- A way's costs are what its steps cost. -/
theorem way_leg (hc : ∀ n a, -1 ≤ cst n a) (hoff : ∀ n a, off n (pS far a) = cst n a) : ∀ n, (∀ j, j < n + 1 → p j = pS far (q j)) → (∀ j, j < n + 1 → (-far ≤ (p j).1 ∧ (p j).1 ≤ far) ∧ (-far ≤ (p j).2 ∧ (p j).2 ≤ far)) → ∀ c u, Way far N cst 0 (tabL q (n + 1)) c u → legsOk far off p (n + 1) = true ∧ legS t off p (n + 1) = c + u * t
  | 0, hp, hi, c, u, w => by
    have h0 := hc 0 (q 0)
    have e0 := hp 0 (by omega)
    have w' : Way far N cst 0 [q 0] c u := w
    cases w' with
    | one h1 h2 =>
      rw [legsOk, legsOk, Bool.true_and, decide_eq_true_eq]
      refine ⟨⟨hi 0 (by omega), ?_⟩, ?_⟩
      · rw [e0, hoff]; omega
      · rw [Nat.zero_add, legS, e0, hoff]; omega
  | n + 1, hp, hi, c, u, w => by
    rw [tabL_two] at w
    obtain ⟨c', u', w1, h1, h2, h3, rfl, rfl⟩ := w.unsnoc
    rw [Nat.zero_add, tabL_len] at h2 ⊢
    obtain ⟨i1, i2⟩ := way_leg hc hoff n (fun j hj => hp j (by omega)) (fun j hj => hi j (by omega)) c' u' w1
    have h0 := hc (n + 1) (q (n + 1))
    have e1 := hp (n + 1) (by omega)
    have e0 := hp n (by omega)
    rw [legsOk, i1, Bool.true_and, decide_eq_true_eq]
    have hs : ∀ a b : Int, absD a b = absD b a := fun a b => by unfold absD; omega
    refine ⟨⟨⟨hi (n + 1) (by omega), by rw [e1, hoff]; omega⟩, ?_⟩, ?_⟩
    · rw [e1, e0, hs, hs (pS far (q (n + 1))).2]; exact h3
    · have ed : absD (pS far (q (n + 1))).1 (pS far (q n)).1 + absD (pS far (q (n + 1))).2 (pS far (q n)).2 = dstP far (q n) (q (n + 1)) := by rw [hs, hs (pS far (q (n + 1))).2]; rfl
      rw [legS, i2, e1, hoff, e0, ed, Int.add_mul]
      omega
theorem leg_way (hoff : ∀ n a, off n (pS far a) = cst n a) : ∀ n, (∀ j, j < n + 1 → p j = pS far (q j) ∧ q j < N) → legsOk far off p (n + 1) = true → ∃ c u, Way far N cst 0 (tabL q (n + 1)) c u ∧ legS t off p (n + 1) = c + u * t
  | 0, hp, h => by
    obtain ⟨e0, h0⟩ := hp 0 (by omega)
    have h1 := legs_le h 0 (by omega)
    have h2 := h1.2
    rw [e0, hoff] at h2
    exact ⟨cst 0 (q 0), 0, .one h0 (show cst 0 (q 0) ≠ -1 by omega), by rw [Nat.zero_add, legS, e0, hoff]; omega⟩
  | n + 1, hp, h => by
    have h1 := legs_le h (n + 1) (by omega)
    rw [legsOk, Bool.and_eq_true] at h
    obtain ⟨c, u, w, e⟩ := leg_way hoff n (fun j hj => hp j (by omega)) h.1
    obtain ⟨e1, hq1⟩ := hp (n + 1) (by omega)
    obtain ⟨e0, hq0⟩ := hp n (by omega)
    have hs : ∀ a b : Int, absD a b = absD b a := fun a b => by unfold absD; omega
    obtain ⟨⟨-, h2⟩, h3⟩ := h1
    rw [e1, hoff] at h2
    rw [e1, e0, hs, hs (pS far (q (n + 1))).2] at h3
    refine ⟨c + cst (n + 1) (q (n + 1)), u + dstP far (q n) (q (n + 1)), ?_, ?_⟩
    · rw [tabL_two]
      have := Way.snoc (l := tabL q n) (b := q (n + 1)) w hq1 (by rw [tabL_len, Nat.zero_add]; omega) h3
      rw [tabL_len, Nat.zero_add] at this
      exact this
    · have ed : absD (pS far (q (n + 1))).1 (pS far (q n)).1 + absD (pS far (q (n + 1))).2 (pS far (q n)).2 = dstP far (q n) (q (n + 1)) := by rw [hs, hs (pS far (q (n + 1))).2]; rfl
      rw [legS, e, e1, hoff, e0, ed, Int.add_mul]
      omega
end
/-- The number of a step. -/
def numS (far : Int) (p : Int × Int) : Nat := (p.2 + far).toNat * sideN far + (p.1 + far).toNat
theorem numS_ok {far : Int} {p : Int × Int} (h : (-far ≤ p.1 ∧ p.1 ≤ far) ∧ (-far ≤ p.2 ∧ p.2 ≤ far)) : p = pS far (numS far p) ∧ numS far p < sideN far * sideN far := by
  have hs : (sideN far : Int) = 2 * far + 1 := by unfold sideN; push_cast; omega
  have h1 : (p.1 + far).toNat < sideN far := by omega
  have h2 : (p.2 + far).toNat < sideN far := by omega
  refine ⟨?_, ?_⟩
  · unfold numS
    rw [pS_at h1]
    refine Prod.ext ?_ ?_ <;> dsimp only <;> omega
  · unfold numS
    have := Nat.mul_le_mul_right (sideN far) (show (p.2 + far).toNat + 1 ≤ sideN far from h2)
    rw [Nat.add_mul, Nat.one_mul] at this
    omega
end Go.Proofs.YtemmnpgebpffbaaGreat
/- The engine: steps whose value is told otherwise; ways out of a block that join. -/
namespace Go.Proofs.YtemmnpgebpffbaaGreat
open Go.RowKit
theorem msM {P : Program} {w0 : World} {W : Nat → Prop} {H : List HE} {op : Op} {vs : List Value} {v v' : Value} {c : Prop} (h : MS P w0 W H op vs v c) (hc : c) (e : v = v') : MS P w0 W H op vs v' True := by subst e; exact ⟨fun _ => h.h hc⟩
theorem msW {P : Program} {w0 : World} {W : Nat → Prop} {H : List HE} {op : Op} {vs : List Value} {v v' : Value} {c : Prop} (h : MW P w0 W H op vs v c) (hc : c) (e : v = v') : MS P w0 W H op vs v' True := by subst e; exact ⟨fun _ => h.h hc⟩
/-- The ways out of a block join: what holds behind it. -/
theorem c_joinL {F : Fence} {n : Nat} {P : Program} {N : Nat} {ds : List Deferred} {w0 : World} {W : Nat → Prop} {σ : List (Nat × Value)} {H : List HE} {K : Act → World → Prop} {Q : Exit → Act → World → Prop} {x : Code} {id : Nat} {X : Type} (R : X → Prop) (σI : X → List (Nat × Value)) (HI : X → List HE)
    (hx : J N ds w0 W σ H (x.wpIn F n P (Exit.inBlock id (Exit.then (fun a w => ∃ z, R z ∧ True ∧ Tm N ds (σI z) a ∧ St w0 W (HI z) w) Q)))) (hy : ∀ z, R z → J N ds w0 W (σI z) (HI z) K) : J N ds w0 W σ H (x.wpIn F n P (Exit.inBlock id (Exit.then K Q))) :=
  hx.mono fun a w h => wpIn_mono h (by
    rintro e a w h
    cases e with
    | normal => obtain ⟨z, h1, -, h2, h3⟩ := h; exact hy z h1 a w h2 h3
    | exit k =>
      by_cases hk : k = id
      · subst hk
        simp only [Exit.inBlock, if_pos] at h ⊢
        obtain ⟨z, h1, -, h2, h3⟩ := h
        exact hy z h1 a w h2 h3
      · simp only [Exit.inBlock, if_neg hk] at h ⊢
        exact h
    | _ => exact h)
section
variable {P : Program} {w0 : World} {W : Nat → Prop} {H : List HE}
instance (priority := 20) (t e bs : Nat) (k kl kc : IntKind) (x y : Operand) (a b : Int) (m : Nat) [ha : LitI a m] [hb : LitI b m] [Und P t (.slice e)] [Inf P e 1 bs (.int k 0)] : NS P w0 W H (.makeSlice t x y) [.int kl a, .int kc b] (fun b => .slice (some ⟨b, 0, none⟩) m m) (fun b => .row (.slice (some ⟨b, 0, none⟩) m m) e 1 m (ints k (List.replicate m 0)) :: H) (bs * m ≤ 281474976710656 ∧ m ≤ 4611686018427387904) := by
  rw [ha.h, hb.h]
  infer_instance
end
end Go.Proofs.YtemmnpgebpffbaaGreat
/- Grids, the plain part: what places are believed together, grids weighed. -/
namespace Go.Proofs.YtemmnpgebpffbaaGreat
open Go.RowKit
/-- A grid: columns and rows, where it lies, how far its places are apart, what each is believed. -/
structure Grd where
  w : Int
  h : Int
  x : Int
  y : Int
  st : Int
  p : List Int
/-- A grid as a value, whose places lie in a row. -/
@[reducible] def grE (g : Grd) (A : Option Addr) (c : Nat) : List Value := [.int .i64 g.w, .int .i64 g.h, .int .i64 g.x, .int .i64 g.y, .int .i64 g.st, .slice A g.p.length c]
@[reducible] def grN : List Value := [.int .i64 0, .int .i64 0, .int .i64 0, .int .i64 0, .int .i64 0, .slice none 0 0]
def sumL (l : List Int) : Nat → Int
  | 0 => 0
  | i + 1 => sumL l i + l.getD i 0
def Pos30 (l : List Int) : Prop := ∀ i, i < l.length → 0 ≤ l.getD i 0 ∧ l.getD i 0 ≤ 1073741824
theorem sumL_in {l : List Int} {B : Int} (h : ∀ i, i < l.length → 0 ≤ l.getD i 0 ∧ l.getD i 0 ≤ B) : ∀ n, n ≤ l.length → 0 ≤ sumL l n ∧ sumL l n ≤ B * (n : Int)
  | 0, _ => by simp [sumL]
  | n + 1, hn => by
    have ih := sumL_in h n (by omega)
    have h1 := h n (by omega)
    have e : B * ((n + 1 : Nat) : Int) = B * (n : Int) + B := by push_cast; rw [Int.mul_add, Int.mul_one]
    rw [sumL, e]
    omega
theorem sumL_ge {l : List Int} {B : Int} (h : ∀ i, i < l.length → 0 ≤ l.getD i 0 ∧ l.getD i 0 ≤ B) {i : Nat} : ∀ n, n ≤ l.length → i < n → l.getD i 0 ≤ sumL l n
  | n + 1, hn, hi => by
    have h0 := (sumL_in h n (by omega)).1
    have h1 := h n (by omega)
    rcases Nat.lt_or_ge i n with h2 | h2
    · have := sumL_ge h n (by omega) h2
      rw [sumL]
      omega
    · obtain rfl : i = n := by omega
      rw [sumL]
      omega
/-- What is believed of all places, weighed. -/
def wsTo (p l : List Int) : Nat → Int
  | 0 => 0
  | i + 1 => wsTo p l i + p.getD i 0 * l.getD i 0
def mostTo (l : List Int) : Nat → Int
  | 0 => 0
  | i + 1 => max (mostTo l i) (l.getD i 0)
def Wt (l : List Int) : Prop := ∀ i, i < l.length → 0 ≤ l.getD i 0 ∧ l.getD i 0 ≤ 65536
theorem mul_in {a b A B : Int} (ha : 0 ≤ a ∧ a ≤ A) (hb : 0 ≤ b ∧ b ≤ B) : 0 ≤ a * b ∧ a * b ≤ A * B :=
  ⟨Int.mul_nonneg ha.1 hb.1, Int.mul_le_mul ha.2 hb.2 hb.1 (by omega)⟩
theorem ws_in {p l : List Int} (hp : Pos30 p) (hl : Wt l) (he : l.length = p.length) : ∀ n, n ≤ p.length → 0 ≤ wsTo p l n ∧ wsTo p l n ≤ 70368744177664 * (n : Int)
  | 0, _ => by simp [wsTo]
  | n + 1, hn => by
    have ih := ws_in hp hl he n (by omega)
    have h1 := mul_in (hp n (by omega)) (hl n (by omega))
    rw [wsTo]
    push_cast
    omega
theorem ws_ge {p l : List Int} (hp : Pos30 p) (hl : Wt l) (he : l.length = p.length) {i : Nat} : ∀ n, n ≤ p.length → i < n → p.getD i 0 * l.getD i 0 ≤ wsTo p l n
  | n + 1, hn, hi => by
    have h0 := (ws_in hp hl he n (by omega)).1
    have h1 := mul_in (hp n (by omega)) (hl n (by omega))
    rw [wsTo]
    rcases Nat.lt_or_ge i n with h2 | h2
    · have := ws_ge hp hl he n (by omega) h2
      omega
    · obtain rfl : i = n := by omega
      omega
theorem most_in {l : List Int} (hl : Wt l) : ∀ n, n ≤ l.length → 0 ≤ mostTo l n ∧ mostTo l n ≤ 65536
  | 0, _ => by simp [mostTo]
  | n + 1, hn => by
    have ih := most_in hl n (by omega)
    have h1 := hl n (by omega)
    rw [mostTo]
    omega
/-- A grid's places, weighed, made whole. -/
def wgh (p l : List Int) (z : Int) (i : Nat) : Int := p.getD i 0 * l.getD i 0 * 1073741824 / z
def wghL (p l : List Int) : List Int := tab (wgh p l (wsTo p l p.length)) p.length
theorem wgh_in {p l : List Int} (hp : Pos30 p) (hl : Wt l) (he : l.length = p.length) (hz : 0 < wsTo p l p.length) {i : Nat} (hi : i < p.length) : 0 ≤ wgh p l (wsTo p l p.length) i ∧ wgh p l (wsTo p l p.length) i ≤ 1073741824 := by
  have h1 := mul_in (hp i hi) (hl i (by omega))
  have h2 := ws_ge hp hl he p.length (Nat.le_refl _) hi
  unfold wgh
  generalize p.getD i 0 * l.getD i 0 = a at *
  generalize wsTo p l p.length = z at *
  refine ⟨Int.ediv_nonneg (by omega) (by omega), ?_⟩
  have : a * 1073741824 ≤ 1073741824 * z := by omega
  exact Int.ediv_le_of_le_mul hz this
/-- All together are whole, but for what is rounded off. -/
theorem wgh_sum {p l : List Int} {z : Int} (hz : 0 < z) : ∀ n, sumL (tab (wgh p l z) n) n * z ≤ wsTo p l n * 1073741824 ∧ wsTo p l n * 1073741824 ≤ sumL (tab (wgh p l z) n) n * z + (z - 1) * n
  | 0 => by simp [sumL, wsTo]
  | n + 1 => by
    obtain ⟨i1, i2⟩ := wgh_sum (p := p) (l := l) hz n
    have e : ∀ m, m ≤ n → sumL (tab (wgh p l z) (n + 1)) m = sumL (tab (wgh p l z) n) m := by
      intro m
      induction m with
      | zero => intro _; rfl
      | succ m ih =>
        intro hm
        rw [sumL, sumL, ih (by omega), tab_get _ (by omega), tab_get _ (by omega)]
    rw [sumL, e n (Nat.le_refl _), tab_get _ (Nat.lt_succ_self n), wsTo]
    have h1 := Int.mul_ediv_add_emod (p.getD n 0 * l.getD n 0 * 1073741824) z
    have h2 := Int.emod_nonneg (p.getD n 0 * l.getD n 0 * 1073741824) (by omega : z ≠ 0)
    have h3 := Int.emod_lt_of_pos (p.getD n 0 * l.getD n 0 * 1073741824) hz
    have eq : wgh p l z n = p.getD n 0 * l.getD n 0 * 1073741824 / z := rfl
    rw [← eq] at h1
    generalize p.getD n 0 * l.getD n 0 * 1073741824 % z = r at *
    rw [Int.add_mul, Int.add_mul]
    have e2 : (z - 1) * ((n + 1 : Nat) : Int) = (z - 1) * (n : Int) + (z - 1) := by push_cast; rw [Int.mul_add, Int.mul_one]
    have e3 : z * wgh p l z n = wgh p l z n * z := Int.mul_comm _ _
    rw [e2]
    generalize (z - 1) * (n : Int) = a at *
    generalize sumL (tab (wgh p l z) n) n * z = b at *
    generalize wgh p l z n * z = c at *
    omega
end Go.Proofs.YtemmnpgebpffbaaGreat
/- Package theodoliteref40: what a given way costs; the least, from the last height on back. -/
namespace Go.Proofs.YtemmnpgebpffbaaGreat
open Go.RowKit
/-- How far the ground is from a height, at a step of a given way. -/
def offG (W H : Nat) (f : List Int) (s : Sch) (l : List Smp) (n : Nat) (p : Int × Int) : Int := offF W H f s (l.getD n default) p.1 p.2
theorem offG_in {W H : Nat} {f : List Int} (hf : In16 f) (s : Sch) (x : Smp) (hx : SmpOk x) (i k : Int) : -1 ≤ offF W H f s x i k ∧ offF W H f s x i k ≤ 8388608 := by
  obtain ⟨⟨x1, x2⟩, -⟩ := hx
  have := heightT_in hf (W := W) (H := H) (s.x + i * s.step + x.dx) (s.y + k * s.step + x.dy)
  unfold offF
  split <;> omega
theorem legS_bnd {far t : Int} {off : Nat → Int × Int → Int} {p : Nat → Int × Int} (ht : 0 ≤ t ∧ t ≤ 1048576) : ∀ n, (∀ j, j < n → off j (p j) ≤ 8388608) → legsOk far off p n = true → 0 ≤ legS t off p n ∧ legS t off p n ≤ 10485760 * (n : Int)
  | 0, _, _ => by simp [legS]
  | 1, ho, h => by
    have := (legs_le h 0 (by omega)).2
    have := ho 0 (by omega)
    rw [legS]
    omega
  | n + 2, ho, h => by
    have h1 := legs_le h (n + 1) (by omega)
    rw [legsOk, Bool.and_eq_true] at h
    have ih := legS_bnd ht (n + 1) (fun j hj => ho j (by omega)) h.1
    have h2 := ho (n + 1) (by omega)
    obtain ⟨⟨-, h3⟩, h4, h5⟩ := h1
    rw [legS]
    have h6 := mul_in (a := absD (p (n + 1)).1 (p n).1 + absD (p (n + 1)).2 (p n).2) (b := t) (A := 2) (B := 1048576) ⟨by unfold absD; omega, by omega⟩ ht
    push_cast at ih ⊢
    omega
theorem sub_cast {S S' H : List HE} (e : S = S') (h : Sub S' H) : Sub S H := e ▸ h
attribute [local irreducible] OJ J HdJ Code.wpIn wpListIn Oper.wpIn bodyPost CallsIn Does
set_option maxRecDepth 4000
set_option maxHeartbeats 64000000 in
instance abs40_cv (x : Int) : CV Tryz.prog 53 [.int .i64 x] (.int .i64 (max x (-x))) (-4611686018427387904 ≤ x ∧ x ≤ 4611686018427387904) := ⟨fun hc w => by
  refine does_of Tryz.func53 rfl Tryz.ntmps53 rfl ⟨by simp, .nil⟩ (fun _ => ?_)
  simp only [slots]
  refine z_tas
  all_goals exact j_out1 rfl rfl (.nil _) ⟨congrArg (Value.int .i64) (by omega), rfl⟩⟩
set_option maxHeartbeats 128000000 in
theorem rcost40_any (W H : Nat) (A : Option Addr) (c : Nat) (f : List Int) (s : Sch) (Al : Option Addr) (cl : Nat) (l : List Smp) (t : Int) (Aw : Option Addr) (cw : Nat) (ws : List (Int × Int)) (w : World) (hr : RoA w (blocks []) A f.length c 1 (ints .i16 f)) (hrl : RoA w (blocks []) Al l.length cl 3 (flat smpE l)) (hrw : RoA w (blocks []) Aw ws.length cw 2 (flat dE ws))
    (hW : 1 ≤ W ∧ W ≤ 256 ∧ 1 ≤ H ∧ H ≤ 256) (hz : f.length = W * H) (hf : In16 f) (hs : SchOk s) (hl : ∀ j, j < l.length → SmpOk (l.getD j default)) (hl64 : l.length ≤ 64) (ht : 0 ≤ t ∧ t ≤ 1048576) (hlen : ws.length ≤ l.length) :
    Does Tryz.prog 20 [.agg #[.int .i64 W, .int .i64 H, .slice A f.length c], .agg (schE s).toArray, .slice Al l.length cl, .int .i64 t, .slice Aw ws.length cw] [] w
      (fun v S' => v = .int .i64 (wayC s.far t (offG W H f s l) (fun j => ws.getD j default) ws.length) ∧ S' = []) := by
  have hs' := hs
  obtain ⟨⟨a1, a2⟩, ⟨a3, a4⟩, ⟨a5, a6⟩, a7, a8⟩ := hs'
  refine does_of Tryz.func20 rfl Tryz.ntmps20 rfl ⟨by simp, .nil⟩ (fun _ => ?_)
  simp only [slots]
  refine z_tas
  rename_i b5 b6
  refine c_loop (X := Nat) (fun i => i ≤ ws.length ∧ legsOk s.far (offG W H f s l) (fun j => ws.getD j default) i = true) (fun i => [(2, .slice Al l.length cl), (3, .int .i64 t), (4, .slice Aw ws.length cw), (5, .pointer (some ⟨b5, 0, none⟩)), (6, .pointer (some ⟨b6, 0, none⟩)), (11, .int .i64 (legS t (offG W H f s l) (fun j => ws.getD j default) i)), (12, .int .i64 i)])
    (fun _ => [.blk b5 31 [.int .i64 W, .int .i64 H, .slice A f.length c], .blk b6 26 (schE s)]) (fun i => ws.length - i) 0 ⟨Nat.zero_le _, rfl⟩ ⟨rfl, rfl, rfl, rfl, rfl, rfl, rfl, trivial⟩ Sub.au ?_
  rintro i ⟨hi, hok⟩
  rcases Nat.lt_or_ge i ws.length with h | h
  · have hb := legS_bnd (far := s.far) (off := offG W H f s l) (p := fun j => ws.getD j default) ht i (fun j hj => (offG_in hf s _ (hl j (by omega)) _ _).2) hok
    have hbad : ¬ legOk s.far (offG W H f s l) (fun j => ws.getD j default) i → wayC s.far t (offG W H f s l) (fun j => ws.getD j default) ws.length = -1 := fun h0 => by
      unfold wayC
      rw [legs_bad h0 _ h]
      rfl
    have hsx := hl i (by omega)
    have hof := offG_in hf s _ hsx (ws.getD i default).1 (ws.getD i default).2 (W := W) (H := H)
    have hoe : offG W H f s l i (ws.getD i default) = offF W H f s (l.getD i default) (ws.getD i default).1 (ws.getD i default).2 := rfl
    have hoff := fun w (q : RoA w (blocks []) A f.length c 1 (ints .i16 f)) (p1 : -32 ≤ (ws.getD i default).1 ∧ (ws.getD i default).1 ≤ 32) (p2 : -32 ≤ (ws.getD i default).2 ∧ (ws.getD i default).2 ≤ 32) => roff_any W H A c f s (l.getD i default) (ws.getD i default).1 (ws.getD i default).2 w q hW hz hf hs hsx p1 p2
    have hnext : legsOk s.far (offG W H f s l) (fun j => ws.getD j default) (i + 1) = decide (legOk s.far (offG W H f s l) (fun j => ws.getD j default) i) := by rw [legsOk, hok, Bool.true_and]
    obtain ⟨bL, oL, rfl, hRL⟩ := hrl.at_ (by omega : 0 < l.length)
    obtain ⟨bw, ow, rfl, hRw⟩ := hrw.at_ (by omega : 0 < ws.length)
    obtain ⟨p, hpe⟩ : ∃ p, ws.getD i default = p := ⟨_, rfl⟩
    generalize hov : offF W H f s (l.getD i default) (ws.getD i default).1 (ws.getD i default).2 = ov at *
    clear hpe p
    rcases Nat.eq_zero_or_pos i with h0 | h0
    · subst h0
      simp only [legOk, hoe] at hbad hnext
      rw [show legS t (offG W H f s l) (fun j => ws.getD j default) 0 = 0 from rfl]
      have hS : legS t (offG W H f s l) (fun j => ws.getD j default) (0 + 1) = ov := by show offG W H f s l 0 (ws.getD 0 default) = ov; rw [hoe]
      refine z_tas
      all_goals first
        | (refine j_out1 rfl rfl (.nil _) ⟨?_, rfl⟩; rw [hbad (by omega)])
        | skip
      refine c_dvL [.blk b5 31 [.int .i64 W, .int .i64 H, .slice A f.length c], .blk b6 26 (schE s)] (0 :: 1 :: 2 :: 3 :: 4 :: 5 :: 6 :: 7 :: 8 :: 9 :: []) Sub.au ?_
      intro _
      refine z_govG
      all_goals
        refine lfv rfl rfl rfl (fun w hw => hoff w ⟨hr.h.go hw (Split.nil _)⟩ (by omega) (by omega)) ?_
        refine z_govG
      · refine j_out1 rfl rfl (.nil _) ⟨?_, rfl⟩
        rw [hbad (by omega)]
      · refine c_round 1 ⟨h, by rw [hnext, decide_eq_true_eq]; omega⟩ (by show ws.length - 1 < ws.length - 0; omega) ⟨rfl, rfl, rfl, rfl, rfl, by rw [hS]; simp [look], by simp [look], trivial⟩ Sub.au
    · obtain ⟨m, rfl⟩ : ∃ m, i = m + 1 := ⟨i - 1, by omega⟩
      have hpm := (legs_le hok m (by omega))
      have hpm' : (-s.far ≤ (ws.getD m default).1 ∧ (ws.getD m default).1 ≤ s.far) ∧ (-s.far ≤ (ws.getD m default).2 ∧ (ws.getD m default).2 ≤ s.far) := by
        cases m with
        | zero => exact hpm.1
        | succ m => exact hpm.1.1
      clear hpm
      have hS : legS t (offG W H f s l) (fun j => ws.getD j default) (m + 1 + 1) = legS t (offG W H f s l) (fun j => ws.getD j default) (m + 1) + ov + (absD (ws.getD (m + 1) default).1 (ws.getD m default).1 + absD (ws.getD (m + 1) default).2 (ws.getD m default).2) * t := by rw [legS, hoe]
      simp only [legOk, hoe] at hbad hnext
      generalize hgs : legS t (offG W H f s l) (fun j => ws.getD j default) (m + 1) = sm at *
      have e1 : ∀ a b : Int, absD a b = max (a - b) (-(a - b)) := fun a b => by unfold absD; omega
      rw [e1, e1] at hS
      rw [e1, e1] at hbad hnext
      have hmb := fun (z : Int) (hz : 0 ≤ z ∧ z ≤ 2) => mulB 2 1048576 (a := z) (b := t) (by omega) (by omega)
      clear e1
      refine z_tas
      all_goals first
        | (refine j_out1 rfl rfl (.nil _) ⟨?_, rfl⟩; rw [hbad (by omega)])
        | skip
      refine c_dvL [.blk b5 31 [.int .i64 W, .int .i64 H, .slice A f.length c], .blk b6 26 (schE s)] (0 :: 1 :: 2 :: 3 :: 4 :: 5 :: 6 :: 7 :: 8 :: 9 :: []) Sub.au ?_
      intro _
      refine z_govG
      all_goals
        refine lfv rfl rfl rfl (fun w hw => hoff w ⟨hr.h.go hw (Split.nil _)⟩ (by omega) (by omega)) ?_
        refine z_govG
      all_goals first
        | (refine j_out1 rfl rfl (.nil _) ⟨?_, rfl⟩; rw [hbad (by omega)])
        | skip
      refine c_round (m + 1 + 1) ⟨h, by rw [hnext, decide_eq_true_eq]; omega⟩ (by show ws.length - (m + 1 + 1) < ws.length - (m + 1); omega) ⟨rfl, rfl, rfl, rfl, rfl, ?_, by simp [look], trivial⟩ Sub.au
      refine congrArg (fun z => some (Value.int .i64 z)) ?_
      have hz2 := hmb _ (show 0 ≤ max ((ws.getD (m + 1) default).1 - (ws.getD m default).1) (-((ws.getD (m + 1) default).1 - (ws.getD m default).1)) + max ((ws.getD (m + 1) default).2 - (ws.getD m default).2) (-((ws.getD (m + 1) default).2 - (ws.getD m default).2)) ∧ _ ≤ 2 by omega)
      rw [hS, IntKind.wrap_i64, IntKind.wrap_i64]
      generalize (max ((ws.getD (m + 1) default).1 - (ws.getD m default).1) (-((ws.getD (m + 1) default).1 - (ws.getD m default).1)) + max ((ws.getD (m + 1) default).2 - (ws.getD m default).2) (-((ws.getD (m + 1) default).2 - (ws.getD m default).2))) * t = z at *
      omega
  · obtain rfl : i = ws.length := by omega
    have e : wayC s.far t (offG W H f s l) (fun j => ws.getD j default) ws.length = legS t (offG W H f s l) (fun j => ws.getD j default) ws.length := by unfold wayC; rw [hok]; rfl
    rw [e]
    refine z_tas
    exact j_out1 rfl rfl (.nil _) ⟨rfl, rfl⟩
end Go.Proofs.YtemmnpgebpffbaaGreat
