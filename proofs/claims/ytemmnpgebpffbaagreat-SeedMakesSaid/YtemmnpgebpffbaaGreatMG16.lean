
import Derived.Test.YtemmnpgebpffbaaGreatMG15
set_option linter.unusedVariables false
set_option linter.unusedSimpArgs false
/- Package theodoliteref03: quotients of numbers that are not below 0, to the nearer one. -/
namespace Go.Proofs.YtemmnpgebpffbaaGreat
open Go.RowKit
theorem bit_lo (c : Nat) {i j : Nat} (h : j < i) : bit3N (c * 2 ^ i) j = 0 := by
  unfold bit3N
  obtain ⟨k, rfl⟩ : ∃ k, i = j + (k + 1) := ⟨i - j - 1, by omega⟩
  rw [Nat.pow_add, Nat.mul_comm (2 ^ j), ← Nat.mul_assoc, Nat.mul_div_cancel _ (Nat.two_pow_pos j), Nat.pow_succ, ← Nat.mul_assoc, Nat.mul_mod_left]
theorem bit_hi (c : Nat) {i j : Nat} (h : i ≤ j) : bit3N (c * 2 ^ i) j = bit3N c (j - i) := by
  unfold bit3N
  obtain ⟨k, rfl⟩ : ∃ k, j = i + k := ⟨j - i, by omega⟩
  rw [Nat.pow_add, ← Nat.div_div_eq_div_mul, Nat.mul_div_cancel _ (Nat.two_pow_pos i), Nat.add_sub_cancel_left]
/-- A bit that is 0 is told. -/
theorem set_mid (Q x : Nat) (hx : x < 2) {i : Nat} (hi : i < 129) : (bits3N (2 * Q * 2 ^ i)).set i (x : Int) = bits3N ((2 * Q + x) * 2 ^ i) := by
  refine List.ext_getElem (by simp [bits3N_len]) fun j h1 h2 => ?_
  have hj : j < 129 := by simpa [bits3N_len] using h2
  rw [List.getElem_set]
  simp only [bits3N, List.getElem_map, List.getElem_range]
  split
  · rename_i h
    subst h
    rw [bit_hi _ (Nat.le_refl _), Nat.sub_self]
    unfold bit3N
    rw [Nat.pow_zero, Nat.div_one]
    omega
  · rename_i h
    congr 1
    rcases Nat.lt_or_ge j i with h1 | h1
    · rw [bit_lo _ h1, bit_lo _ h1]
    · rw [bit_hi _ h1, bit_hi _ h1]
      obtain ⟨k, hk⟩ : ∃ k, j - i = k + 1 := ⟨j - i - 1, by omega⟩
      rw [hk]
      unfold bit3N
      rw [Nat.pow_succ, Nat.mul_comm (2 ^ k), ← Nat.div_div_eq_div_mul, ← Nat.div_div_eq_div_mul]
      congr 2
      omega
theorem set_midS (Q x : Nat) (hx : x < 2) {i : Nat} (hi : i < 129) : SetAt (ints .i64 (bits3N (2 * Q * 2 ^ i))) i (.int .i64 (x : Nat)) (ints .i64 (bits3N ((2 * Q + x) * 2 ^ i))) := ⟨by
  refine ⟨?_, by rw [ints_bits_len]; exact hi⟩
  rw [← set_mid Q x hx hi]
  simp [ints]⟩
instance : Lt129 0 := ⟨by decide⟩
theorem two_ii {A A' B B' : Int} (h1 : A = A') (h2 : B = B') : retV [.int .i64 A, .int .i64 B] = Value.tuple #[.int .i64 A', .int .i64 B'] := by subst h1 h2; rfl
attribute [local irreducible] OJ J HdJ Code.wpIn wpListIn Oper.wpIn bodyPost CallsIn Does
set_option maxRecDepth 4000
set_option maxHeartbeats 32000000 in
instance sub3_cv (m n : Nat) : CV Tryz.prog 124 [.agg (ints .i64 (bits3N m)).toArray, .agg (ints .i64 (bits3N n)).toArray] (.agg (ints .i64 (bits3N (m - n))).toArray) (n ≤ m) := ⟨fun hmn w => by
  refine does_of Tryz.func124 rfl Tryz.ntmps124 rfl ⟨by simp, .nil⟩ (fun _ => ?_)
  simp only [slots]
  refine z_tas
  rename_i b2 b3 b4 b5
  refine c_loop (X := Nat) (fun i => i ≤ 129) (fun i => [(2, .pointer (some ⟨b2, 0, none⟩)), (3, .pointer (some ⟨b3, 0, none⟩)), (4, .pointer (some ⟨b4, 0, none⟩)), (5, .pointer (some ⟨b5, 0, none⟩)), (6, .int .i64 (bor3N m n i : Nat)), (7, .int .i64 i)])
    (fun i => [.blk b2 117 (ints .i64 (bits3N m)), .blk b3 117 (ints .i64 (bits3N n)), .blk b4 117 (ints .i64 (bits3N 0)), .blk b5 117 (ints .i64 (bits3N ((m - n) % 2 ^ i)))]) (fun i => 129 - i) 0 (by omega) ⟨rfl, rfl, rfl, rfl, by rw [bor_zero]; rfl, rfl, trivial⟩ (by rw [bits3N_mod1]; exact Sub.au) ?_
  intro i hi
  rcases Nat.lt_or_ge i 129 with h | h
  · have iL : Lt129 i := ⟨h⟩
    obtain ⟨a1, a2⟩ := sub_bit hmn i
    have b1 := bit3N_lt m i
    have b2' := bit3N_lt n i
    have b3' : bor3N m n i < 2 := by unfold bor3N; split <;> decide
    have b4' : bor3N m n (i + 1) < 2 := by unfold bor3N; split <;> decide
    have o1 : ∀ x : Int, x = (bit3N (m - n) i : Nat) → SetAt (ints .i64 (bits3N ((m - n) % 2 ^ i))) i (.int .i64 x) (ints .i64 (bits3N ((m - n) % 2 ^ (i + 1)))) := fun x hx => set_bits (m - n) h hx
    by_cases hneg : ((bit3N m i : Nat) : Int) - (bit3N n i : Nat) - (bor3N m n i : Nat) < 0
    · have o2 := o1 (((bit3N m i : Nat) : Int) - (bit3N n i : Nat) - (bor3N m n i : Nat) + 2) (by rw [a2, if_pos hneg])
      have h0 := a1.1 hneg
      clear a1 a2 o1
      refine z_tas
      refine c_round (i + 1) h (by show 129 - (i + 1) < 129 - i; omega) ⟨rfl, rfl, rfl, rfl, ?_, by simp [look], trivial⟩ Sub.au
      rw [h0]
      rfl
    · have o2 := o1 (((bit3N m i : Nat) : Int) - (bit3N n i : Nat) - (bor3N m n i : Nat)) (by rw [a2, if_neg hneg])
      have h0 : bor3N m n (i + 1) = 0 := by
        have : ¬ bor3N m n (i + 1) = 1 := fun e => hneg (a1.2 e)
        omega
      clear a1 a2 o1
      refine z_tas
      refine c_round (i + 1) h (by show 129 - (i + 1) < 129 - i; omega) ⟨rfl, rfl, rfl, rfl, ?_, by simp [look], trivial⟩ Sub.au
      rw [h0]
      rfl
  · obtain rfl : i = 129 := by omega
    rw [bits3N_mod]
    refine z_tas
    refine z_ro
    exact ⟨rfl, rfl⟩⟩
theorem div_bit (a b i : Nat) (hb : 0 < b) :
    (b ≤ 2 * (a / 2 ^ (i + 1) % b) + bit3N a i → a / 2 ^ i / b = 2 * (a / 2 ^ (i + 1) / b) + 1 ∧ a / 2 ^ i % b = 2 * (a / 2 ^ (i + 1) % b) + bit3N a i - b) ∧
    (¬ b ≤ 2 * (a / 2 ^ (i + 1) % b) + bit3N a i → a / 2 ^ i / b = 2 * (a / 2 ^ (i + 1) / b) + 0 ∧ a / 2 ^ i % b = 2 * (a / 2 ^ (i + 1) % b) + bit3N a i) := by
  have e : a / 2 ^ i = 2 * (a / 2 ^ (i + 1)) + bit3N a i := by
    unfold bit3N
    rw [Nat.pow_succ, ← Nat.div_div_eq_div_mul]
    omega
  have h1 := Nat.div_add_mod (a / 2 ^ (i + 1)) b
  have h2 := Nat.mod_lt (a / 2 ^ (i + 1)) hb
  have h3 := bit3N_lt a i
  rw [e]
  generalize a / 2 ^ (i + 1) = n at *
  generalize bit3N a i = x at *
  generalize n / b = q at *
  generalize n % b = r at *
  subst h1
  constructor <;> intro h
  · have e2 : 2 * (b * q + r) + x = b * (2 * q + 1) + (2 * r + x - b) := by rw [Nat.mul_add b, Nat.mul_left_comm b]; omega
    rw [e2, Nat.mul_add_div hb, Nat.div_eq_of_lt (by omega), Nat.mul_add_mod, Nat.mod_eq_of_lt (by omega)]
    exact ⟨rfl, rfl⟩
  · have e2 : 2 * (b * q + r) + x = b * (2 * q) + (2 * r + x) := by rw [Nat.mul_left_comm b]; omega
    rw [e2, Nat.mul_add_div hb, Nat.div_eq_of_lt (by omega), Nat.mul_add_mod, Nat.mod_eq_of_lt (by omega)]
    exact ⟨rfl, rfl⟩
set_option maxHeartbeats 64000000 in
instance divide3_cv (a b : Nat) : CV Tryz.prog 98 [.agg (ints .i64 (bits3N a)).toArray, .agg (ints .i64 (bits3N b)).toArray] (.tuple #[.agg (ints .i64 (bits3N (a / b))).toArray, .agg (ints .i64 (bits3N (a % b))).toArray]) (a < 680564733841876926926749214863536422912 ∧ 0 < b ∧ b ≤ 170141183460469231731687303715884105728) := ⟨fun hc w => by
  obtain ⟨ha, hb, hb2⟩ := hc
  refine does_of Tryz.func98 rfl Tryz.ntmps98 rfl ⟨by simp, .nil⟩ (fun _ => ?_)
  simp only [slots]
  refine z_tas
  rename_i b2 b3 b4 b5 b6 b7
  refine c_loop (X := Nat) (fun k => k ≤ 129) (fun k => [(2, .pointer (some ⟨b2, 0, none⟩)), (3, .pointer (some ⟨b3, 0, none⟩)), (4, .pointer (some ⟨b4, 0, none⟩)), (5, .pointer (some ⟨b5, 0, none⟩)), (6, .pointer (some ⟨b6, 0, none⟩)), (7, .pointer (some ⟨b7, 0, none⟩)), (8, .int .i64 ((k : Int) - 1))])
    (fun k => [.blk b2 117 (ints .i64 (bits3N a)), .blk b3 117 (ints .i64 (bits3N b)), .blk b4 117 (ints .i64 (bits3N 0)), .blk b5 117 (ints .i64 (bits3N 0)), .blk b6 117 (ints .i64 (bits3N (a / 2 ^ k / b * 2 ^ k))), .blk b7 117 (ints .i64 (bits3N (a / 2 ^ k % b)))]) (fun k => k) 129 (Nat.le_refl _) ⟨rfl, rfl, rfl, rfl, rfl, rfl, rfl, trivial⟩ ?_ ?_
  · have h0 : a / 2 ^ 129 = 0 := Nat.div_eq_of_lt ha
    rw [h0, Nat.zero_div, Nat.zero_mul, Nat.zero_mod]
    exact Sub.au
  intro k hk
  rcases Nat.eq_zero_or_pos k with h | h
  · subst h
    rw [Nat.pow_zero, Nat.div_one, Nat.mul_one]
    refine z_tas
    refine c_dvL [.blk b6 117 (ints .i64 (bits3N (a / b))), .blk b7 117 (ints .i64 (bits3N (a % b)))] (0 :: 1 :: 2 :: 3 :: []) Sub.au ?_
    intro _
    refine z_govG
    all_goals (refine z_ro; exact ⟨rfl, rfl⟩)
  · obtain ⟨i, rfl⟩ : ∃ i, k = i + 1 := ⟨k - 1, by omega⟩
    have iL : Lt129 i := ⟨by omega⟩
    obtain ⟨d1, d2⟩ := div_bit a b i hb
    have hx := bit3N_lt a i
    have hr := Nat.mod_lt (a / 2 ^ (i + 1)) hb
    have s1 := set_midS (a / 2 ^ (i + 1) % b) (bit3N a i) hx (i := 0) (by decide)
    have s2 := set_midS (a / 2 ^ (i + 1) / b) 1 (by decide) (i := i) (by omega)
    rw [show (((i + 1 : Nat) : Int) - 1) = (i : Int) by omega]
    rw [Nat.pow_zero, Nat.mul_one, Nat.mul_one] at s1
    have eq : a / 2 ^ (i + 1) / b * 2 ^ (i + 1) = 2 * (a / 2 ^ (i + 1) / b) * 2 ^ i := by rw [Nat.pow_succ, Nat.mul_comm 2, Nat.mul_assoc, Nat.mul_comm 2]
    rw [eq]
    generalize a / 2 ^ (i + 1) % b = r at *
    generalize a / 2 ^ (i + 1) / b = q at *
    refine z_tas
    · rename_i hge
      have hge' : b ≤ 2 * r + bit3N a i := by omega
      obtain ⟨e1, e2⟩ := d1 hge'
      refine c_round i (by omega) (Nat.lt_succ_self _) ⟨rfl, rfl, rfl, rfl, rfl, rfl, by simp [look], trivial⟩ ?_
      rw [e1, e2]
      exact Sub.au
    · rename_i hge
      have hge' : ¬ b ≤ 2 * r + bit3N a i := by simpa using hge
      obtain ⟨e1, e2⟩ := d2 hge'
      refine c_round i (by omega) (Nat.lt_succ_self _) ⟨rfl, rfl, rfl, rfl, rfl, rfl, by simp [look], trivial⟩ ?_
      rw [e1, e2]
      exact Sub.au⟩
set_option maxHeartbeats 64000000 in
/-- Is the rest at least half, to the nearer one? -/
instance more3_cv (r b : Nat) : CV Tryz.prog 99 [.agg (ints .i64 (bits3N r)).toArray, .agg (ints .i64 (bits3N b)).toArray, .bool false, .int .i64 2] (.bool (decide (b ≤ 2 * r))) (r < b ∧ b ≤ 170141183460469231731687303715884105728) := ⟨fun hc w => by
  refine does_of Tryz.func99 rfl Tryz.ntmps99 rfl ⟨by simp, .nil⟩ (fun _ => ?_)
  simp only [slots]
  refine z_tas
  all_goals refine j_out1 rfl rfl (.nil _) ⟨congrArg Value.bool ?_, rfl⟩
  all_goals (simp only [eq_comm (a := true), eq_comm (a := false), decide_eq_true_eq, decide_eq_false_iff_not]; omega)⟩
set_option maxHeartbeats 64000000 in
/-- A quotient to the nearer one, of numbers that are not below 0. -/
instance div3_cv (z : Nat) (b : Int) : CV Tryz.prog 61 [.agg (numE false z).toArray, .int .i64 b, .int .i64 2] (.tuple #[.int .i64 ((2 * z + b) / (2 * b)), .int .i64 0]) (z < 680564733841876926926749214863536422912 ∧ (0 < b ∧ b ≤ 9223372036854775807) ∧ (2 * z + b) / (2 * b) ≤ 9223372036854775806) := ⟨fun hc w => by
  obtain ⟨hz, ⟨hb1, hb2⟩, hq⟩ := hc
  obtain ⟨c, rfl⟩ : ∃ c : Nat, b = c := ⟨b.toNat, by omega⟩
  have hq2 : (z / c + if c ≤ 2 * (z % c) then 1 else 0 : Nat) = (2 * z + c) / (2 * c) := by
    have h1 := Nat.div_add_mod z c
    have h2 := Nat.mod_lt z (show 0 < c by omega)
    generalize z / c = q at *
    generalize z % c = r at *
    subst h1
    split
    · rw [show 2 * (c * q + r) + c = 2 * c * (q + 1) + (2 * r - c) by rw [Nat.mul_add (2 * c), Nat.mul_assoc]; omega, Nat.mul_add_div (by omega), Nat.div_eq_of_lt (by omega)]
    · rw [show 2 * (c * q + r) + c = 2 * c * q + (2 * r + c) by rw [Nat.mul_assoc]; omega, Nat.mul_add_div (by omega), Nat.div_eq_of_lt (by omega)]
  have hcast : ((2 * (z : Int) + (c : Int)) / (2 * (c : Int)) : Int) = (((2 * z + c) / (2 * c) : Nat) : Int) := by push_cast; rfl
  rw [hcast] at hq ⊢
  rw [← hq2] at hq ⊢
  have iO : CV Tryz.prog 59 [.int .i64 (c : Int)] (.agg (numE false c).toArray) True := ⟨fun _ w => by
    have := rof_any (c : Int) (by show (-9223372036854775808 : Int) ≤ _ ∧ _ ≤ (9223372036854775807 : Int); omega) w
    rw [decide_eq_false (by omega : ¬ (c : Int) < 0), Int.natAbs_natCast] at this
    exact this⟩
  have hr := Nat.mod_lt z (show 0 < c by omega)
  have s1 := set_midS 0 1 (by decide) (i := 0) (by decide)
  rw [Nat.mul_zero, Nat.zero_mul, Nat.zero_add, Nat.pow_zero, Nat.mul_one] at s1
  have iE : ∀ w0 W H u a b, MS Tryz.prog w0 W H (.binOp .neq 4 a b u) [.bool false, .bool false] (.bool false) True := fun _ _ _ _ _ _ => ⟨fun _ => (inferInstance : MS _ _ _ _ _ _ _ _).h trivial⟩
  have iD := divide3_cv z c
  have iM := more3_cv (z % c) c
  generalize z / c = q at *
  generalize z % c = r at *
  refine does_of Tryz.func61 rfl Tryz.ntmps61 rfl ⟨by simp, .nil⟩ (fun _ => ?_)
  simp only [slots]
  have i66 : decide ((q : Int) = 0) = decide (q = 0) := by rw [Bool.eq_iff_iff]; simp
  by_cases hcr : c ≤ 2 * r
  · rw [if_pos hcr] at hq ⊢
    have iM2 : CV Tryz.prog 99 [.agg (ints .i64 (bits3N r)).toArray, .agg (ints .i64 (bits3N c)).toArray, .bool false, .int .i64 2] (.bool true) True := ⟨fun _ w => by have := iM.h ⟨hr, by omega⟩ w; rwa [decide_eq_true hcr] at this⟩
    clear iM
    have iA := add3_cv q 1
    obtain ⟨p, hp⟩ : ∃ p, q + 1 = p := ⟨_, rfl⟩
    have iZ := zero3_cv false p
    rw [decide_eq_false (by omega : ¬ p = 0)] at iZ
    rw [hp] at iA hq ⊢
    refine z_tas
    refine z_ro
    exact ⟨two_ii (by omega) rfl, rfl⟩
  · rw [if_neg hcr] at hq ⊢
    have iM2 : CV Tryz.prog 99 [.agg (ints .i64 (bits3N r)).toArray, .agg (ints .i64 (bits3N c)).toArray, .bool false, .int .i64 2] (.bool false) True := ⟨fun _ w => by have := iM.h ⟨hr, by omega⟩ w; rwa [decide_eq_false hcr] at this⟩
    clear iM
    refine z_tas
    · have h0 : q = 0 := by omega
      subst h0
      refine z_ro
      exact ⟨rfl, rfl⟩
    · refine z_ro
      exact ⟨two_ii (by omega) rfl, rfl⟩⟩
end Go.Proofs.YtemmnpgebpffbaaGreat
