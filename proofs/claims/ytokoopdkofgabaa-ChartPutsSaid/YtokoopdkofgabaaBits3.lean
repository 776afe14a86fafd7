/- Package bits: what is read, as rows of bits. -/
import Derived.Test.YtokoopdkofgabaaBits2
namespace Go.Proofs.Ytokoopdkofgabaa
open Go.RowKit
/-- From bit p on these bits stand. -/
def isAt (ys : List Int) (p : Nat) (l : List Bool) : Prop := p + l.length ≤ 8 * ys.length ∧ ∀ i, i < l.length → bitY ys (p + i) = l.getD i false
theorem getD_append_left {l r : List Bool} {i : Nat} (h : i < l.length) : (l ++ r).getD i false = l.getD i false := by
  simp [List.getD_eq_getElem?_getD, List.getElem?_append_left h]
theorem getD_append_right {l r : List Bool} {i : Nat} (h : l.length ≤ i) : (l ++ r).getD i false = r.getD (i - l.length) false := by
  simp [List.getD_eq_getElem?_getD, List.getElem?_append_right h]
theorem isAt_append {ys : List Int} {p : Nat} {l r : List Bool} : isAt ys p (l ++ r) ↔ isAt ys p l ∧ isAt ys (p + l.length) r := by
  constructor
  · rintro ⟨h1, h2⟩
    rw [List.length_append] at h1
    refine ⟨⟨by omega, fun i hi => ?_⟩, ⟨by omega, fun i hi => ?_⟩⟩
    · rw [h2 i (by rw [List.length_append]; omega), getD_append_left hi]
    · rw [Nat.add_assoc, h2 (l.length + i) (by rw [List.length_append]; omega), getD_append_right (by omega), Nat.add_sub_cancel_left]
  · rintro ⟨⟨h1, h2⟩, ⟨h3, h4⟩⟩
    refine ⟨by rw [List.length_append]; omega, fun i hi => ?_⟩
    rw [List.length_append] at hi
    rcases Nat.lt_or_ge i l.length with h | h
    · rw [h2 i h, getD_append_left h]
    · rw [getD_append_right h, ← h4 (i - l.length) (by omega), show p + l.length + (i - l.length) = p + i from by omega]
theorem isAt_nil {ys : List Int} {p : Nat} : isAt ys p [] ↔ p ≤ 8 * ys.length := ⟨fun h => by simpa using h.1, fun h => ⟨by simpa using h, fun i hi => by simp at hi⟩⟩
theorem isAt_one {ys : List Int} {p : Nat} {b : Bool} : isAt ys p [b] ↔ p < 8 * ys.length ∧ bitY ys p = b := by
  constructor
  · rintro ⟨h1, h2⟩; exact ⟨by rw [List.length_singleton] at h1; omega, by simpa using h2 0 (by simp)⟩
  · rintro ⟨h1, h2⟩; refine ⟨by rw [List.length_singleton]; omega, fun i hi => ?_⟩
    obtain rfl : i = 0 := by simpa using hi
    simpa using h2
theorem isAt_ones {ys : List Int} {p j : Nat} : isAt ys p (List.replicate j true) ↔ p + j ≤ 8 * ys.length ∧ ∀ i, i < j → bitY ys (p + i) = true := by
  have e : ∀ i, i < j → (List.replicate j true).getD i false = true := fun i hi => by simp [List.getD_eq_getElem?_getD, hi]
  constructor
  · rintro ⟨h1, h2⟩; rw [List.length_replicate] at h1 h2; exact ⟨h1, fun i hi => by rw [h2 i hi, e i hi]⟩
  · rintro ⟨h1, h2⟩; refine ⟨by rw [List.length_replicate]; exact h1, fun i hi => ?_⟩
    rw [List.length_replicate] at hi; rw [h2 i hi, e i hi]
theorem numV_bit (ys : List Int) (p : Nat) : ∀ (m i : Nat), i < m → (numV ys p m).testBit (m - 1 - i) = bitY ys (p + i)
  | 0, i, h => by omega
  | m + 1, i, h => by
    by_cases hi : i = m
    · subst hi
      rw [show i + 1 - 1 - i = 0 from by omega, Nat.testBit_zero, numV]
      cases bitY ys (p + i) <;> simp [Nat.add_mod]
    · rw [show m + 1 - 1 - i = (m - 1 - i) + 1 from by omega, Nat.testBit_succ, numV,
        show (2 * numV ys p m + (if bitY ys (p + m) = true then 1 else 0)) / 2 = numV ys p m from by split <;> omega]
      exact numV_bit ys p m i (by omega)
theorem numBits_get (n m i : Nat) (h : i < m) : (numBits n m).getD i false = n.testBit (m - 1 - i) := by
  simp [numBits, List.getD_eq_getElem?_getD, h]
theorem isAt_num {ys : List Int} {p n m : Nat} : isAt ys p (numBits n m) ↔ p + m ≤ 8 * ys.length ∧ numV ys p m = n % 2 ^ m := by
  constructor
  · rintro ⟨h1, h2⟩
    rw [numBits_len] at h1 h2
    refine ⟨h1, Nat.eq_of_testBit_eq fun j => ?_⟩
    rw [Nat.testBit_mod_two_pow]
    by_cases hj : j < m
    · have := numV_bit ys p m (m - 1 - j) (by omega)
      rw [h2 (m - 1 - j) (by omega), numBits_get n m _ (by omega), show m - 1 - (m - 1 - j) = j from by omega] at this
      simp [this, hj]
    · rw [Nat.testBit_lt_two_pow (Nat.lt_of_lt_of_le (numV_lt ys p m) (Nat.pow_le_pow_right (by omega) (by omega)))]
      simp [hj]
  · rintro ⟨h1, h2⟩
    refine ⟨by rw [numBits_len]; exact h1, fun i hi => ?_⟩
    rw [numBits_len] at hi
    rw [numBits_get n m i hi, ← numV_bit ys p m i hi, h2, Nat.testBit_mod_two_pow]
    simp [show m - 1 - i < m from by omega]

set_option maxRecDepth 4000
/-- What the reader's Ones comes to. -/
theorem rones_any (g c : Nat) (A : Option Addr) (ys : List Int) (p m : Nat) (w : World) (hown : Own (Rd g A c ys p false) w) (hm : ys.length < 100000000) (hp : p ≤ 8 * ys.length) (hm2 : m < 1000000) :
    Does Try.prog 155 [.pointer (some ⟨g, 0, none⟩), .int .i64 m] (Rd g A c ys p false) w (fun v S' => ∃ (j p' : Nat) (wr : Bool), v = .int .i64 j ∧ S' = Rd g A c ys p' wr ∧ p' ≤ 8 * ys.length ∧
      ((wr = false ∧ j ≤ m ∧ p' = p + j + 1 ∧ isAt ys p (List.replicate j true ++ [false])) ∨ (wr = true ∧ ∀ j, j ≤ m → ¬ isAt ys p (List.replicate j true ++ [false])))) := by
  by_cases h : ∃ j, j ≤ m ∧ isAt ys p (List.replicate j true ++ [false])
  · obtain ⟨j, hj, hat⟩ := h
    have h2 := isAt_append.1 hat
    rw [isAt_ones, List.length_replicate, isAt_one] at h2
    obtain ⟨⟨-, h3⟩, h4, h5⟩ := h2
    refine (rones_yes g c A ys p m j w hown hm hj h4 hm2 h3 h5).mono ?_
    rintro v S' ⟨rfl, rfl⟩
    exact ⟨j, p + j + 1, false, rfl, rfl, by omega, .inl ⟨rfl, hj, rfl, hat⟩⟩
  · refine (rones_no g c A ys p m w hown hm hp hm2 fun j hj hlt h1 => ?_).mono ?_
    · cases hb : bitY ys (p + j) with
      | true => rfl
      | false => exact absurd ⟨j, hj, isAt_append.2 ⟨isAt_ones.2 ⟨by omega, h1⟩, by rw [List.length_replicate]; exact isAt_one.2 ⟨hlt, hb⟩⟩⟩ h
    · rintro v S' ⟨rfl, p', hp', rfl⟩
      exact ⟨0, p', true, rfl, rfl, hp', .inr ⟨rfl, fun j hj hat => h ⟨j, hj, hat⟩⟩⟩
/-- What the reader's Num comes to. -/
theorem rnum_any (g c : Nat) (A : Option Addr) (ys : List Int) (p m : Nat) (wr : Bool) (w : World) (hown : Own (Rd g A c ys p wr) w) (hm : ys.length < 100000000) (hp : p ≤ 8 * ys.length) (h64 : m ≤ 63) :
    Does Try.prog 135 [.pointer (some ⟨g, 0, none⟩), .int .i64 m] (Rd g A c ys p wr) w (fun v S' => ∃ (x p' : Nat) (wr' : Bool), v = .int .u64 x ∧ x < 2 ^ m ∧ S' = Rd g A c ys p' wr' ∧ p' ≤ 8 * ys.length ∧
      ((wr' = false ∧ wr = false ∧ p' = p + m ∧ isAt ys p (numBits x m)) ∨ (wr' = true ∧ (wr = false → ∀ n, ¬ isAt ys p (numBits n m))))) := by
  by_cases h : wr = false ∧ p + m ≤ 8 * ys.length
  · obtain ⟨rfl, h⟩ := h
    refine (rnum_yes g c A ys p m w hown hm h h64).mono ?_
    rintro v S' ⟨rfl, rfl⟩
    exact ⟨_, p + m, false, rfl, numV_lt ys p m, rfl, h, .inl ⟨rfl, rfl, rfl, isAt_num.2 ⟨h, (Nat.mod_eq_of_lt (numV_lt ys p m)).symm⟩⟩⟩
  · refine (rnum_no g c A ys p m wr w hown hm hp h64 ?_).mono ?_
    · cases wr with
      | true => exact .inl rfl
      | false => exact .inr (by have : ¬ p + m ≤ 8 * ys.length := fun e => h ⟨rfl, e⟩; omega)
    · rintro v S' ⟨rfl, rfl⟩
      refine ⟨0, p, true, rfl, Nat.pow_pos (by omega), rfl, hp, .inr ⟨rfl, fun hwr n hat => h ⟨hwr, ?_⟩⟩⟩
      exact (isAt_num.1 hat).1
end Go.Proofs.Ytokoopdkofgabaa
