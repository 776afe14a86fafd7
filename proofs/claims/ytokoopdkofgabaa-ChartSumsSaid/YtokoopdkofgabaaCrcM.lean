/- Sums of bytes, the plain law: registers as numbers; what lies behind one another; a burst of bits. -/
import Derived.Test.YtokoopdkofgabaaEng
namespace Go.Proofs.Ytokoopdkofgabaa
/-- A register behind a bit. -/
def crcB (r : Nat) : Nat := (r / 2) ^^^ (if r % 2 = 1 then 3988292384 else 0)
def crcK : Nat → Nat → Nat
  | 0, r => r
  | k + 1, r => crcB (crcK k r)
theorem crcB_lt {r : Nat} (h : r < 4294967296) : crcB r < 4294967296 := by
  unfold crcB
  exact Nat.xor_lt_two_pow (n := 32) (by omega) (by split <;> omega)
theorem crcK_lt {r : Nat} (h : r < 4294967296) : ∀ k, crcK k r < 4294967296
  | 0 => h
  | k + 1 => crcB_lt (crcK_lt h k)
theorem crcB_xor (a b : Nat) : crcB (a ^^^ b) = crcB a ^^^ crcB b := by
  unfold crcB
  rw [Nat.xor_div_two]
  have hm : (a ^^^ b) % 2 = (a + b) % 2 := by
    have h := Nat.xor_mod_two_pow (a := a) (b := b) (n := 1)
    rw [Nat.pow_one] at h
    rw [h]
    rcases Nat.mod_two_eq_zero_or_one a with h1 | h1 <;> rcases Nat.mod_two_eq_zero_or_one b with h2 | h2 <;> rw [h1, h2]
    · show 0 = _; omega
    · show 1 = _; omega
    · show 1 = _; omega
    · show 0 = _; omega
  rw [hm]
  have e1 : ∀ x y z u : Nat, x ^^^ z ^^^ (y ^^^ u) = x ^^^ y ^^^ (z ^^^ u) := fun x y z u => by
    rw [Nat.xor_assoc, Nat.xor_assoc, ← Nat.xor_assoc z y u, Nat.xor_comm z y, Nat.xor_assoc y z u]
  rw [e1]
  congr 1
  rcases Nat.mod_two_eq_zero_or_one a with h1 | h1 <;> rcases Nat.mod_two_eq_zero_or_one b with h2 | h2
  · rw [if_neg (by omega), if_neg (by omega), if_neg (by omega)]; rfl
  · rw [if_pos (by omega), if_neg (by omega), if_pos (by omega), Nat.zero_xor]
  · rw [if_pos (by omega), if_pos (by omega), if_neg (by omega), Nat.xor_zero]
  · rw [if_neg (by omega), if_pos (by omega), if_pos (by omega), Nat.xor_self]
theorem crcK_xor (a b : Nat) : ∀ k, crcK k (a ^^^ b) = crcK k a ^^^ crcK k b
  | 0 => rfl
  | k + 1 => by rw [crcK, crcK_xor a b k, crcB_xor]; rfl
theorem crcK_add (r : Nat) (j : Nat) : ∀ k, crcK (j + k) r = crcK k (crcK j r)
  | 0 => rfl
  | k + 1 => by rw [← Nat.add_assoc, crcK, crcK_add r j k]; rfl
theorem crcB_even (x : Nat) : crcB (2 * x) = x := by
  unfold crcB
  rw [if_neg (by omega), Nat.xor_zero]
  omega
theorem crcK_shift (x : Nat) : ∀ k, crcK k (2 ^ k * x) = x
  | 0 => by simp [crcK]
  | k + 1 => by
    rw [crcK, show 2 ^ (k + 1) * x = 2 ^ k * (2 * x) by rw [Nat.pow_succ, Nat.mul_assoc], crcK_shift (2 * x) k, crcB_even]
theorem crcB_ne {r : Nat} (h : r < 4294967296) (h0 : r ≠ 0) : crcB r ≠ 0 := by
  unfold crcB
  split
  · intro e
    have e2 : r / 2 = 3988292384 := by
      have := congrArg (· ^^^ 3988292384) e
      simp only [Nat.xor_assoc, Nat.xor_self, Nat.xor_zero, Nat.zero_xor] at this
      exact this
    omega
  · rw [Nat.xor_zero]; omega
theorem crcK_ne {r : Nat} (h : r < 4294967296) (h0 : r ≠ 0) : ∀ k, crcK k r ≠ 0
  | 0 => h0
  | k + 1 => crcB_ne (crcK_lt h k) (crcK_ne h h0 k)
/-- A burst is seen. -/
theorem crcK_burst {m b k : Nat} (hm : m < 4294967296) (h0 : m ≠ 0) (hb : b ≤ k) : crcK k (2 ^ b * m) ≠ 0 := by
  rw [show k = b + (k - b) by omega, crcK_add, crcK_shift]
  exact crcK_ne hm h0 _
/-- Bytes as a number, the lowest first. -/
def numY : List Int → Nat
  | [] => 0
  | y :: r => y.toNat + 256 * numY r
theorem numY_app : ∀ a b : List Int, numY (a ++ b) = numY a + 256 ^ a.length * numY b
  | [], b => by simp [numY]
  | y :: r, b => by
    rw [List.cons_append, numY, numY, numY_app r b, List.length_cons, Nat.pow_succ, Nat.mul_add, Nat.mul_comm (256 ^ r.length) 256, Nat.mul_assoc]
    omega
theorem numY_lt {ys : List Int} (h : ∀ y ∈ ys, 0 ≤ y ∧ y < 256) : numY ys < 256 ^ ys.length := by
  induction ys with
  | nil => simp [numY]
  | cons y r ih =>
    have h1 := h y (List.mem_cons_self ..)
    have h2 := ih (fun x hx => h x (List.mem_cons_of_mem _ hx))
    rw [numY, List.length_cons, Nat.pow_succ]
    omega
/-- The register behind so many bytes. -/
def crcTo (ys : List Int) (r : Nat) : Nat → Nat
  | 0 => r
  | i + 1 => crcK 8 (crcTo ys r i ^^^ (ys.getD i 0).toNat)
theorem crcTo_lt {ys : List Int} (h : ∀ y ∈ ys, 0 ≤ y ∧ y < 256) {r : Nat} (hr : r < 4294967296) : ∀ i, i ≤ ys.length → crcTo ys r i < 4294967296
  | 0, _ => hr
  | i + 1, hi => by
    refine crcK_lt (Nat.xor_lt_two_pow (n := 32) (crcTo_lt h hr i (by omega)) ?_) 8
    have : ys.getD i 0 ∈ ys := by rw [List.getD_eq_getElem?_getD, List.getElem?_eq_getElem (by omega)]; exact List.getElem_mem ..
    have := h _ this
    omega
theorem add_xor {a n : Nat} (h : a < 2 ^ n) (b : Nat) : a + 2 ^ n * b = a ^^^ 2 ^ n * b := by
  apply Nat.eq_of_testBit_eq
  intro i
  rw [Nat.add_comm, Nat.testBit_two_pow_mul_add b h i, Nat.testBit_xor]
  by_cases hi : i < n
  · rw [if_pos hi]
    have : (2 ^ n * b).testBit i = false := by
      have := Nat.testBit_two_pow_mul_add b (Nat.two_pow_pos n) i
      rw [Nat.add_zero, if_pos hi, Nat.zero_testBit] at this
      exact this
    rw [this, Bool.xor_false]
  · rw [if_neg hi]
    have h1 := Nat.testBit_two_pow_mul_add b (Nat.two_pow_pos n) i
    rw [Nat.add_zero, if_neg hi] at h1
    have h2 : a.testBit i = false := Nat.testBit_lt_two_pow (Nat.lt_of_lt_of_le h (Nat.pow_le_pow_right (by omega) (by omega)))
    rw [h1, h2, Bool.false_xor]
theorem pow256 (n : Nat) : 256 ^ n = 2 ^ (8 * n) := by rw [Nat.pow_mul]
/-- Byte by byte, or all of them as one number. -/
theorem crcTo_num {ys : List Int} (h : ∀ y ∈ ys, 0 ≤ y ∧ y < 256) (r : Nat) : ∀ i, i ≤ ys.length → crcTo ys r i = crcK (8 * i) (r ^^^ numY (ys.take i))
  | 0, _ => by simp [crcTo, crcK, numY]
  | i + 1, hi => by
    have e : ys.take (i + 1) = ys.take i ++ [ys.getD i 0] := by
      rw [List.take_succ_eq_append_getElem (by omega), List.getD_eq_getElem?_getD, List.getElem?_eq_getElem (by omega)]
      rfl
    have hl : (ys.take i).length = i := by rw [List.length_take]; omega
    have hlt : numY (ys.take i) < 2 ^ (8 * i) := by
      have := numY_lt (ys := ys.take i) (fun y hy => h y (List.mem_of_mem_take hy))
      rw [hl, pow256] at this
      exact this
    have e2 : numY (ys.take (i + 1)) = numY (ys.take i) ^^^ 2 ^ (8 * i) * (ys.getD i 0).toNat := by
      rw [e, numY_app, hl, pow256, add_xor hlt]
      simp [numY]
    rw [crcTo, crcTo_num h r i (by omega), e2, ← Nat.xor_assoc, show 8 * (i + 1) = 8 * i + 8 by omega, crcK_add, crcK_xor _ (2 ^ (8 * i) * _) (8 * i), crcK_shift]
/-- The sum of bytes. -/
def sumY (ys : List Int) : Nat := 4294967295 ^^^ crcTo ys 4294967295 ys.length
theorem sumY_lt {ys : List Int} (h : ∀ y ∈ ys, 0 ≤ y ∧ y < 256) : sumY ys < 4294967296 := Nat.xor_lt_two_pow (n := 32) (by omega) (crcTo_lt h (by omega) _ (Nat.le_refl _))
/-- Bytes with their sum behind: the register behind all of them is the same always. -/
theorem sum_ok {ys ts : List Int} (h : ∀ y ∈ ys, 0 ≤ y ∧ y < 256) (he : numY ts = sumY ys) : crcK (8 * (ys.length + 4)) (4294967295 ^^^ numY (ys ++ ts)) = crcK 32 4294967295 := by
  have h1 := crcTo_num h 4294967295 ys.length (Nat.le_refl _)
  rw [List.take_length] at h1
  have h2 := numY_lt h
  rw [pow256] at h2
  rw [numY_app, pow256, add_xor h2, ← Nat.xor_assoc, show 8 * (ys.length + 4) = 8 * ys.length + 32 by omega, crcK_add, crcK_xor _ (2 ^ (8 * ys.length) * _), crcK_shift, ← h1, he]
  unfold sumY
  rw [← Nat.xor_assoc, Nat.xor_comm (crcTo _ _ _), Nat.xor_assoc, Nat.xor_self, Nat.xor_zero]
/-- Of two rows of bytes with their sums behind, no one is the other one with bits turned that lie within 32. -/
theorem sum_burst {ys ts ys' ts' : List Int} (h : ∀ y ∈ ys, 0 ≤ y ∧ y < 256) (h' : ∀ y ∈ ys', 0 ≤ y ∧ y < 256) (hl : ys'.length = ys.length) (he : numY ts = sumY ys) (he' : numY ts' = sumY ys') {m b : Nat} (hm : m < 4294967296) (h0 : m ≠ 0) (hb : b ≤ 8 * (ys.length + 4)) : numY (ys' ++ ts') ≠ numY (ys ++ ts) ^^^ 2 ^ b * m := by
  intro e
  have e1 := sum_ok h he
  have e2 := sum_ok h' he'
  rw [hl, e, ← Nat.xor_assoc, crcK_xor _ (2 ^ b * m), e1] at e2
  have e3 := congrArg (crcK 32 4294967295 ^^^ ·) e2
  simp only [← Nat.xor_assoc, Nat.xor_self, Nat.zero_xor] at e3
  exact crcK_burst hm h0 hb e3
/-- A bit of bytes turned. -/
theorem numY_set : ∀ (ys : List Int) (i j : Nat), (∀ y ∈ ys, 0 ≤ y ∧ y < 256) → i < ys.length → j < 8 → numY (ys.set i (((ys.getD i 0).toNat ^^^ 2 ^ j : Nat) : Int)) = numY ys ^^^ 2 ^ (8 * i + j)
  | [], i, j, _, hi, _ => by simp at hi
  | y :: r, 0, j, h, _, hj => by
    have h1 := h y (List.mem_cons_self ..)
    have hp : 2 ^ j < 256 := by have : 2 ^ j ≤ 2 ^ 7 := Nat.pow_le_pow_right (by omega) (by omega); omega
    have hx : y.toNat ^^^ 2 ^ j < 2 ^ 8 := Nat.xor_lt_two_pow (by omega) hp
    rw [List.set_cons_zero]
    show (((y.toNat ^^^ 2 ^ j : Nat) : Int)).toNat + 256 * numY r = (y.toNat + 256 * numY r) ^^^ _
    rw [Int.toNat_natCast, show 256 = 2 ^ 8 from rfl, add_xor hx, add_xor (show y.toNat < 2 ^ 8 by omega), Nat.xor_assoc, Nat.xor_comm (2 ^ j), ← Nat.xor_assoc]
    simp
  | y :: r, i + 1, j, h, hi, hj => by
    have h1 := h y (List.mem_cons_self ..)
    have ih := numY_set r i j (fun x hx => h x (List.mem_cons_of_mem _ hx)) (by simpa using hi) hj
    rw [List.set_cons_succ]
    show y.toNat + 256 * numY (r.set i _) = (y.toNat + 256 * numY r) ^^^ _
    have e : (y :: r).getD (i + 1) 0 = r.getD i 0 := rfl
    rw [e, ih, show 256 = 2 ^ 8 from rfl, add_xor (show y.toNat < 2 ^ 8 by omega), add_xor (show y.toNat < 2 ^ 8 by omega), Nat.xor_assoc]
    congr 1
    rw [show 8 * (i + 1) + j = 8 + (8 * i + j) by omega, Nat.pow_add 2 8 (8 * i + j)]
    apply Nat.eq_of_testBit_eq
    intro k
    simp only [Nat.testBit_xor, Nat.testBit_two_pow_mul]
    by_cases hk : 8 ≤ k <;> simp only [hk, decide_true, decide_false, Bool.true_and, Bool.false_and, Bool.xor_false, ge_iff_le]
/-- A number in so many bytes. -/
def bytesN (x : Nat) (size : Nat) : List Int := (List.range size).map fun i => ((x / 256 ^ i % 256 : Nat) : Int)
theorem bytesN_len (x size : Nat) : (bytesN x size).length = size := by simp [bytesN]
theorem bytesN_take (x size i : Nat) (h : i < size) : (bytesN x size).take (i + 1) = (bytesN x size).take i ++ [((x / 256 ^ i % 256 : Nat) : Int)] := by
  rw [List.take_succ_eq_append_getElem (by rw [bytesN_len]; exact h)]
  simp [bytesN]
theorem bytesN_get (x size i : Nat) (h : i < size) : (bytesN x size).getD i 0 = ((x / 256 ^ i % 256 : Nat) : Int) := by
  simp [bytesN, List.getD_eq_getElem?_getD, h]
theorem bytesN_in (x size : Nat) : ∀ y ∈ bytesN x size, 0 ≤ y ∧ y < 256 := by
  intro y hy
  obtain ⟨i, -, rfl⟩ := List.mem_map.1 hy
  omega
theorem bytesN_succ (x size : Nat) : bytesN x (size + 1) = ((x % 256 : Nat) : Int) :: bytesN (x / 256) size := by
  unfold bytesN
  rw [List.range_succ_eq_map, List.map_cons, List.map_map]
  congr 1
  · simp
  · refine List.map_congr_left fun i _ => ?_
    simp only [Function.comp, Nat.pow_succ, Nat.div_div_eq_div_mul, Nat.succ_eq_add_one, Nat.mul_comm]
theorem numY_bytesN : ∀ (size x : Nat), numY (bytesN x size) = x % 256 ^ size
  | 0, x => by simp [bytesN, numY, Nat.mod_one]
  | size + 1, x => by
    rw [bytesN_succ, numY, numY_bytesN size (x / 256), Int.toNat_natCast, Nat.pow_succ, Nat.mul_comm (256 ^ size) 256, Nat.mod_mul]
end Go.Proofs.Ytokoopdkofgabaa
