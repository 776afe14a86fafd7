/- Package pyramid, the plain law: a cell of a level is what all heights below it are together. -/
import Derived.Test.YtokoopdkofgabaaPyr5
namespace Go.Proofs.Ytokoopdkofgabaa
open Go.RowKit
/-- All columns and rows below a place. -/
def sqL : Nat → Nat → Nat → List (Nat × Nat)
  | 0, x, y => [(x, y)]
  | n + 1, x, y => sqL n (2 * x) (2 * y) ++ (sqL n (2 * x + 1) (2 * y) ++ (sqL n (2 * x) (2 * y + 1) ++ sqL n (2 * x + 1) (2 * y + 1)))
theorem sqL_mem : ∀ (n x y : Nat) (p : Nat × Nat), p ∈ sqL n x y → x * 2 ^ n ≤ p.1 ∧ p.1 < x * 2 ^ n + 2 ^ n ∧ y * 2 ^ n ≤ p.2 ∧ p.2 < y * 2 ^ n + 2 ^ n
  | 0, x, y, p, h => by
    have : p = (x, y) := by simpa [sqL] using h
    subst this
    simp
  | n + 1, x, y, p, h => by
    simp only [sqL, List.mem_append] at h
    have e1 : 2 ^ (n + 1) = 2 ^ n + 2 ^ n := by rw [Nat.pow_succ]; omega
    have e2 : ∀ z, z * 2 ^ (n + 1) = 2 * z * 2 ^ n := fun z => by rw [Nat.pow_succ, Nat.mul_comm 2 z, Nat.mul_assoc z 2, Nat.mul_comm 2]
    have e3 : ∀ z, (2 * z + 1) * 2 ^ n = 2 * z * 2 ^ n + 2 ^ n := fun z => by rw [Nat.add_mul, Nat.one_mul]
    rw [e2, e2, e1]
    rcases h with h | h | h | h
    · have := sqL_mem n _ _ p h; omega
    · have := sqL_mem n _ _ p h; rw [e3] at this; omega
    · have := sqL_mem n _ _ p h; rw [e3] at this; omega
    · have := sqL_mem n _ _ p h; rw [e3, e3] at this; omega
theorem hRow_get (w h : Nat) (cs : List Cel) (y : Nat) : ∀ (m x : Nat), x < m → (hRow w h cs y m)[x]? = some (hAt w h cs x y)
  | 0, x, hx => by omega
  | m + 1, x, hx => by
    rw [hRow]
    by_cases h1 : x < m
    · rw [List.getElem?_append_left (by rw [hRow_len]; exact h1)]
      exact hRow_get w h cs y m x h1
    · obtain rfl : x = m := by omega
      rw [List.getElem?_append_right (by rw [hRow_len]; omega), hRow_len, Nat.sub_self]
      rfl
theorem hAll_get (w h : Nat) (cs : List Cel) (x : Nat) (hx : x < hf w) : ∀ (m y : Nat), y < m → (hAll w h cs m)[y * hf w + x]? = some (hAt w h cs x y)
  | 0, y, hy => by omega
  | m + 1, y, hy => by
    rw [hAll]
    by_cases h1 : y < m
    · have := Nat.mul_le_mul_right (hf w) (show y + 1 ≤ m from h1)
      rw [Nat.add_mul, Nat.one_mul] at this
      rw [List.getElem?_append_left (by rw [hAll_len]; omega)]
      exact hAll_get w h cs x hx m y h1
    · obtain rfl : y = m := by omega
      rw [List.getElem?_append_right (by rw [hAll_len]; omega), hAll_len, Nat.add_sub_cancel_left]
      exact hRow_get w h cs y (hf w) x hx
theorem atL_prp {w h : Int} {cs : List Cel} (hok : ∀ c ∈ cs, Prp c) (x y : Int) : Prp (atL w h cs x y) := by
  unfold atL
  split
  · rw [List.getD_eq_getElem?_getD]
    cases hq : cs[(y * w + x).toNat]? with
    | none => exact ⟨by decide, fun _ => rfl⟩
    | some c => simpa using hok c (List.mem_of_getElem? hq)
  · exact prp_zero
theorem atL_out {w h : Nat} {cs : List Cel} {x y : Nat} (ho : w ≤ x ∨ h ≤ y) : atL w h cs x y = ⟨0, 0, 0⟩ := by
  unfold atL
  rw [if_neg (by omega)]
/-- The level above, cell by cell. -/
theorem atL_up {w h : Nat} {cs : List Cel} (hok : ∀ c ∈ cs, Prp c) (x y : Nat) :
    atL (hf w : Nat) (hf h : Nat) (hAll w h cs (hf h)) x y = joinC (atL w h cs (2 * x : Nat) (2 * y : Nat)) (joinC (atL w h cs (2 * x + 1 : Nat) (2 * y : Nat)) (joinC (atL w h cs (2 * x : Nat) (2 * y + 1 : Nat)) (atL w h cs (2 * x + 1 : Nat) (2 * y + 1 : Nat)))) := by
  have hp := fun a b => atL_prp (w := w) (h := h) hok a b
  by_cases hin : x < hf w ∧ y < hf h
  · have e1 : atL (hf w : Nat) (hf h : Nat) (hAll w h cs (hf h)) x y = hAt w h cs x y := by
      unfold atL
      rw [if_pos (by omega), List.getD_eq_getElem?_getD, show ((y : Int) * (hf w : Nat) + (x : Int)).toNat = y * hf w + x by rw [← Int.natCast_mul, ← Int.natCast_add, Int.toNat_natCast], hAll_get w h cs x hin.1 (hf h) y hin.2]
      rfl
    rw [e1]
    unfold hAt
    simp only [jTo, List.getD, List.getElem?_cons_zero, List.getElem?_cons_succ, Option.getD_some]
    rw [zero_join (hp _ _), join_assoc (prp_join (hp _ _) (hp _ _)) (hp _ _) (hp _ _), join_assoc (hp _ _) (hp _ _) (prp_join (hp _ _) (hp _ _))]
    push_cast
    rfl
  · have ho : w ≤ 2 * x ∨ h ≤ 2 * y := by simp only [hf] at hin; omega
    rw [atL_out (by omega), atL_out ho, atL_out (by omega), atL_out (by omega), atL_out (by omega)]
    rfl
theorem hAll_prp {w h : Nat} {cs : List Cel} (hok : ∀ c ∈ cs, Prp c) (y : Nat) : ∀ c ∈ hAll w h cs y, Prp c := by
  intro c hc
  obtain ⟨x, y', rfl⟩ := hAll_mem w h cs y c hc
  unfold hAt
  simp only [jTo, List.getD, List.getElem?_cons_zero, List.getElem?_cons_succ, Option.getD_some]
  exact prp_join (prp_join (prp_join (prp_join prp_zero (atL_prp hok _ _)) (atL_prp hok _ _)) (atL_prp hok _ _)) (atL_prp hok _ _)
/-- A cell of the field, by its place. -/
def bcF (w h : Nat) (cs : List Cel) (p : Nat × Nat) : Cel := atL w h cs p.1 p.2
theorem bcF_prp {w h : Nat} {cs : List Cel} (hok : ∀ c ∈ cs, Prp c) (p : Nat × Nat) : Prp (bcF w h cs p) := atL_prp hok _ _
theorem stack_top {w h : Nat} {cs : List Cel} (hok : ∀ c ∈ cs, Prp c) {st : List Lv} (hs : Stack w h cs st) : ∀ t r, st = t :: r → (∀ c ∈ t.cs, Prp c) ∧ ∀ x y : Nat, atL t.w t.h t.cs x y = agg (bcF w h cs) (sqL r.length x y) := by
  induction hs with
  | one l e =>
    intro t r he
    injection he with e1 e2
    subst e1 e2
    obtain ⟨a, b, c⟩ := e
    rw [a, b, c]
    exact ⟨hok, fun x y => by simp [sqL, agg, bcF, join_zero (atL_prp hok _ _)]⟩
  | up t0 l r0 hs hb e ih =>
    intro t r he
    injection he with e1 e2
    subst e1 e2
    obtain ⟨g1, g2⟩ := ih l r0 rfl
    obtain ⟨a, b, c⟩ := e
    rw [a, b, c]
    refine ⟨hAll_prp g1 _, fun x y => ?_⟩
    rw [atL_up g1, g2, g2, g2, g2, List.length_cons, sqL]
    have hb := bcF_prp (w := w) (h := h) hok
    rw [agg_app hb, agg_app hb, agg_app hb]
theorem stack_cut {w h : Nat} {cs : List Cel} {st : List Lv} (hs : Stack w h cs st) : ∀ n, n < st.length → ∃ r, Stack w h cs (st.reverse.getD n default :: r) ∧ r.length = n := by
  induction hs with
  | one l e =>
    intro n hn
    obtain rfl : n = 0 := by simpa using hn
    exact ⟨[], .one l e, rfl⟩
  | up t l r hs hb e ih =>
    intro n hn
    by_cases h1 : n < (l :: r).length
    · obtain ⟨r', q1, q2⟩ := ih n h1
      have e1 : (t :: l :: r).reverse.getD n default = (l :: r).reverse.getD n default := by
        rw [List.reverse_cons, List.getD_eq_getElem?_getD, List.getD_eq_getElem?_getD, List.getElem?_append_left (by rw [List.length_reverse]; exact h1)]
      rw [e1]
      exact ⟨r', q1, q2⟩
    · obtain rfl : n = (l :: r).length := by simp only [List.length_cons] at hn h1 ⊢; omega
      have e1 : (t :: l :: r).reverse.getD (l :: r).length default = t := by
        rw [List.reverse_cons, List.getD_eq_getElem?_getD, List.getElem?_append_right (by rw [List.length_reverse]; exact Nat.le_refl _), List.length_reverse, Nat.sub_self]
        rfl
      rw [e1]
      exact ⟨l :: r, .up t l r hs hb e, rfl⟩
/-- A cell of any level. -/
theorem level_cell {w h : Nat} {cs : List Cel} (hok : ∀ c ∈ cs, Prp c) {st : List Lv} (hs : Stack w h cs st) (n : Nat) (hn : n < st.length) (x y : Nat) :
    atL (st.reverse.getD n default).w (st.reverse.getD n default).h (st.reverse.getD n default).cs x y = agg (bcF w h cs) (sqL n x y) := by
  obtain ⟨r, h1, h2⟩ := stack_cut hs n hn
  rw [← h2]
  have := (stack_top hok h1 _ _ rfl).2 x y
  rw [h2] at this ⊢
  exact this
theorem agg_zero {α : Type} {f : α → Cel} : ∀ {l : List α}, (∀ x ∈ l, f x = ⟨0, 0, 0⟩) → agg f l = ⟨0, 0, 0⟩
  | [], _ => rfl
  | x :: r, h => by
    rw [agg, h x (List.mem_cons_self ..), agg_zero fun y hy => h y (List.mem_cons_of_mem _ hy)]
    rfl
theorem agg_congr {α : Type} {f g : α → Cel} : ∀ {l : List α}, (∀ x ∈ l, f x = g x) → agg f l = agg g l
  | [], _ => rfl
  | x :: r, h => by rw [agg, agg, h x (List.mem_cons_self ..), agg_congr fun y hy => h y (List.mem_cons_of_mem _ hy)]
/-- A cell of the field, if it lies in a box. -/
def bcB (w h : Nat) (cs : List Cel) (b : Bx) (p : Nat × Nat) : Cel := if b.x0 ≤ p.1 ∧ p.1 ≤ b.x1 ∧ b.y0 ≤ p.2 ∧ p.2 ≤ b.y1 then bcF w h cs p else ⟨0, 0, 0⟩
theorem bcB_prp {w h : Nat} {cs : List Cel} (hok : ∀ c ∈ cs, Prp c) (b : Bx) (p : Nat × Nat) : Prp (bcB w h cs b p) := by
  unfold bcB
  split
  · exact bcF_prp hok p
  · exact prp_zero
theorem bcF_out {w h : Nat} {cs : List Cel} {p : Nat × Nat} (ho : w ≤ p.1 ∨ h ≤ p.2) : bcF w h cs p = ⟨0, 0, 0⟩ := atL_out ho
theorem bcB_out {w h : Nat} {cs : List Cel} {b : Bx} {p : Nat × Nat} (ho : w ≤ p.1 ∨ h ≤ p.2) : bcB w h cs b p = ⟨0, 0, 0⟩ := by
  unfold bcB
  split
  · exact bcF_out ho
  · rfl
theorem agg_apart {w h : Nat} {cs : List Cel} {b : Bx} {n x y : Nat} (ha : apartB (sqB w h n x y) b = true) : agg (bcB w h cs b) (sqL n x y) = ⟨0, 0, 0⟩ := by
  refine agg_zero fun p hp => ?_
  have h1 := sqL_mem n x y p hp
  unfold apartB sqB at ha
  simp only [decide_eq_true_eq] at ha
  by_cases ho : w ≤ p.1 ∨ h ≤ p.2
  · exact bcB_out ho
  · unfold bcB
    rw [if_neg (by omega)]
theorem agg_in {w h : Nat} {cs : List Cel} {b : Bx} {n x y : Nat} (ha : inB (sqB w h n x y) b = true) : agg (bcB w h cs b) (sqL n x y) = agg (bcF w h cs) (sqL n x y) := by
  refine agg_congr fun p hp => ?_
  have h1 := sqL_mem n x y p hp
  unfold inB sqB at ha
  simp only [decide_eq_true_eq] at ha
  by_cases ho : w ≤ p.1 ∨ h ≤ p.2
  · rw [bcB_out ho, bcF_out ho]
  · unfold bcB
    rw [if_pos (by omega)]
/-- Where a level ends the field has ended. -/
theorem agg_off {w h : Nat} {cs : List Cel} {b : Bx} {n x y lw lh : Nat} (hw : w ≤ lw * 2 ^ n) (hh : h ≤ lh * 2 ^ n) (ho : lw ≤ x ∨ lh ≤ y) : agg (bcB w h cs b) (sqL n x y) = ⟨0, 0, 0⟩ := by
  refine agg_zero fun p hp => bcB_out ?_
  have h1 := sqL_mem n x y p hp
  rcases ho with ho | ho
  · have := Nat.mul_le_mul_right (2 ^ n) ho; omega
  · have := Nat.mul_le_mul_right (2 ^ n) ho; omega
/-- The places on the stack, together. -/
def aggS (f : Nat × Nat → Cel) (st : List Pl3) : Cel := agg f (st.flatMap fun q => sqL q.n q.x q.y)
theorem aggS_app {f : Nat × Nat → Cel} (hf : ∀ p, Prp (f p)) (a b : List Pl3) : aggS f (a ++ b) = joinC (aggS f a) (aggS f b) := by
  unfold aggS
  rw [List.flatMap_append, agg_app hf]
theorem aggS_one {f : Nat × Nat → Cel} (q : Pl3) : aggS f [q] = agg f (sqL q.n q.x q.y) := by
  unfold aggS
  simp
theorem aggS_prp {f : Nat × Nat → Cel} (hf : ∀ p, Prp (f p)) (a : List Pl3) : Prp (aggS f a) := agg_prp hf _
theorem aggS_step {w h : Nat} {cs : List Cel} (hok : ∀ c ∈ cs, Prp c) {b : Bx} {n x y lw lh : Nat} (hw : w ≤ lw * 2 ^ n) (hh : h ≤ lh * 2 ^ n) (i : Nat) :
    aggS (bcB w h cs b) (blw n lw lh x y (i + 1)) = joinC (aggS (bcB w h cs b) (blw n lw lh x y i)) (agg (bcB w h cs b) (sqL n (2 * x + i % 2) (2 * y + i / 2))) := by
  have hp := bcB_prp (w := w) (h := h) hok b
  rw [blw_succ]
  split
  · rw [aggS_app hp, aggS_one]
  · rename_i hc
    rw [agg_off hw hh (by omega), join_zero (aggS_prp hp _)]
theorem aggS_blw {w h : Nat} {cs : List Cel} (hok : ∀ c ∈ cs, Prp c) {b : Bx} {n x y lw lh : Nat} (hw : w ≤ lw * 2 ^ n) (hh : h ≤ lh * 2 ^ n) :
    aggS (bcB w h cs b) (blw n lw lh x y 4) = agg (bcB w h cs b) (sqL (n + 1) x y) := by
  have hp := bcB_prp (w := w) (h := h) hok b
  have ha := fun l => agg_prp hp l
  rw [aggS_step hok hw hh, aggS_step hok hw hh, aggS_step hok hw hh, aggS_step hok hw hh]
  have e0 : aggS (bcB w h cs b) (blw n lw lh x y 0) = ⟨0, 0, 0⟩ := rfl
  rw [e0, zero_join (ha _), sqL, agg_app hp, agg_app hp, agg_app hp]
  rw [join_assoc (prp_join (ha _) (ha _)) (ha _) (ha _), join_assoc (ha _) (ha _) (prp_join (ha _) (ha _))]
  rfl
theorem stack_dim {w h : Nat} {cs : List Cel} {st : List Lv} (hs : Stack w h cs st) : ∀ t r, st = t :: r → w ≤ t.w * 2 ^ r.length ∧ h ≤ t.h * 2 ^ r.length := by
  induction hs with
  | one l e =>
    intro t r he
    injection he with e1 e2
    subst e1 e2
    obtain ⟨a, b, c⟩ := e
    simp [a, b]
  | up t0 l r0 hs hb e ih =>
    intro t r he
    injection he with e1 e2
    subst e1 e2
    obtain ⟨g1, g2⟩ := ih l r0 rfl
    obtain ⟨a, b, c⟩ := e
    rw [a, b, List.length_cons, Nat.pow_succ]
    have k1 := Nat.mul_le_mul_right (2 ^ r0.length) (show l.w ≤ hf l.w * 2 by simp only [hf]; omega)
    have k2 := Nat.mul_le_mul_right (2 ^ r0.length) (show l.h ≤ hf l.h * 2 by simp only [hf]; omega)
    have e2 : ∀ z, z * 2 * 2 ^ r0.length = z * (2 ^ r0.length * 2) := fun z => by rw [Nat.mul_assoc, Nat.mul_comm 2]
    rw [e2] at k1 k2
    omega
theorem level_dim {w h : Nat} {cs : List Cel} {st : List Lv} (hs : Stack w h cs st) (n : Nat) (hn : n < st.length) : w ≤ (st.reverse.getD n default).w * 2 ^ n ∧ h ≤ (st.reverse.getD n default).h * 2 ^ n := by
  obtain ⟨r, h1, h2⟩ := stack_cut hs n hn
  have := stack_dim h1 _ _ rfl
  rw [h2] at this
  exact this
end Go.Proofs.Ytokoopdkofgabaa
