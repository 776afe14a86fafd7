/- Sums of bytes, the plain law: registers as numbers; what lies behind one another; a burst of bits. -/
import Derived.Test.YtokoopdkofgabaaEng
namespace Go.Proofs.Ytokoopdkofgabaa
/-- A register behind a bit. -/
def crcB (r : Nat) : Nat := (r / 2) ^^^ (if r % 2 = 1 then 3988292384 else 0)
def crcK : Nat → Nat → Nat
  | 0, r => r
  | k + 1, r => crcB (crcK k r)
theorem crcB_lt {r : Nat} (h : r < 4294967296) : crcB r < 4294967296 := by
  unfold crcB
  exact Nat.xor_lt_two_pow (n := 32) (by omega) (by split <;> omega)
theorem crcK_lt {r : Nat} (h : r < 4294967296) : ∀ k, crcK k r < 4294967296
  | 0 => h
  | k + 1 => crcB_lt (crcK_lt h k)
theorem crcB_xor (a b : Nat) : crcB (a ^^^ b) = crcB a ^^^ crcB b := by
  unfold crcB
  rw [Nat.xor_div_two]
  have hm : (a ^^^ b) % 2 = (a + b) % 2 := by
    have h := Nat.xor_mod_two_pow (a := a) (b := b) (n := 1)
    rw [Nat.pow_one] at h
    rw [h]
    rcases Nat.mod_two_eq_zero_or_one a with h1 | h1 <;> rcases Nat.mod_two_eq_zero_or_one b with h2 | h2 <;> rw [h1, h2]
    · show 0 = _; omega
    · show 1 = _; omega
    · show 1 = _; omega
    · show 0 = _; omega
  rw [hm]
  have e1 : ∀ x y z u : Nat, x ^^^ z ^^^ (y ^^^ u) = x ^^^ y ^^^ (z ^^^ u) := fun x y z u => by
    rw [Nat.xor_assoc, Nat.xor_assoc, ← Nat.xor_assoc z y u, Nat.xor_comm z y, Nat.xor_assoc y z u]
  rw [e1]
  congr 1
  rcases Nat.mod_two_eq_zero_or_one a with h1 | h1 <;> rcases Nat.mod_two_eq_zero_or_one b with h2 | h2
  · rw [if_neg (by omega), if_neg (by omega), if_neg (by omega)]; rfl
  · rw [if_pos (by omega), if_neg (by omega), if_pos (by omega), Nat.zero_xor]
  · rw [if_pos (by omega), if_pos (by omega), if_neg (by omega), Nat.xor_zero]
  · rw [if_neg (by omega), if_pos (by omega), if_pos (by omega), Nat.xor_self]
/-- Bytes as a number, the lowest first. -/
def numY : List Int → Nat
  | [] => 0
  | y :: r => y.toNat + 256 * numY r
theorem numY_app : ∀ a b : List Int, numY (a ++ b) = numY a + 256 ^ a.length * numY b
  | [], b => by simp [numY]
  | y :: r, b => by
    rw [List.cons_append, numY, numY, numY_app r b, List.length_cons, Nat.pow_succ, Nat.mul_add, Nat.mul_comm (256 ^ r.length) 256, Nat.mul_assoc]
    omega
theorem numY_lt {ys : List Int} (h : ∀ y ∈ ys, 0 ≤ y ∧ y < 256) : numY ys < 256 ^ ys.length := by
  induction ys with
  | nil => simp [numY]
  | cons y r ih =>
    have h1 := h y (List.mem_cons_self ..)
    have h2 := ih (fun x hx => h x (List.mem_cons_of_mem _ hx))
    rw [numY, List.length_cons, Nat.pow_succ]
    omega
/-- The register behind so many bytes. -/
def crcTo (ys : List Int) (r : Nat) : Nat → Nat
  | 0 => r
  | i + 1 => crcK 8 (crcTo ys r i ^^^ (ys.getD i 0).toNat)
theorem crcTo_lt {ys : List Int} (h : ∀ y ∈ ys, 0 ≤ y ∧ y < 256) {r : Nat} (hr : r < 4294967296) : ∀ i, i ≤ ys.length → crcTo ys r i < 4294967296
  | 0, _ => hr
  | i + 1, hi => by
    refine crcK_lt (Nat.xor_lt_two_pow (n := 32) (crcTo_lt h hr i (by omega)) ?_) 8
    have : ys.getD i 0 ∈ ys := by rw [List.getD_eq_getElem?_getD, List.getElem?_eq_getElem (by omega)]; exact List.getElem_mem ..
    have := h _ this
    omega
theorem pow256 (n : Nat) : 256 ^ n = 2 ^ (8 * n) := by rw [Nat.pow_mul]
/-- The sum of bytes. -/
def sumY (ys : List Int) : Nat := 4294967295 ^^^ crcTo ys 4294967295 ys.length
theorem sumY_lt {ys : List Int} (h : ∀ y ∈ ys, 0 ≤ y ∧ y < 256) : sumY ys < 4294967296 := Nat.xor_lt_two_pow (n := 32) (by omega) (crcTo_lt h (by omega) _ (Nat.le_refl _))
theorem xor_ones32 {x : Nat} (h : x < 4294967296) : 4294967295 ^^^ x = 4294967295 - x := by
  have e : (BitVec.ofNat 32 4294967295 ^^^ BitVec.ofNat 32 x).toNat = (~~~ (BitVec.ofNat 32 x)).toNat := by
    rw [show BitVec.ofNat 32 4294967295 = BitVec.allOnes 32 from by decide, BitVec.allOnes_xor]
  rw [BitVec.toNat_xor, BitVec.toNat_not, BitVec.toNat_ofNat, BitVec.toNat_ofNat, Nat.mod_eq_of_lt (by omega), Nat.mod_eq_of_lt h] at e
  rw [e]
/-- The reference's step: bit by bit. -/
def refB (r n : Nat) : Nat → Nat
  | 0 => r
  | k + 1 => (refB r n k / 2) ^^^ (if (refB r n k % 2 = 1) ↔ (n / 2 ^ k % 2 = 1) then 0 else 3988292384)
theorem refB_eq (r n : Nat) : ∀ k, crcK k (r ^^^ n) = refB r n k ^^^ n / 2 ^ k
  | 0 => by simp [crcK, refB]
  | k + 1 => by
    rw [crcK, refB_eq r n k, crcB_xor]
    unfold crcB
    rw [refB, show n / 2 ^ (k + 1) = n / 2 ^ k / 2 by rw [Nat.pow_succ, Nat.div_div_eq_div_mul]]
    generalize refB r n k = q
    generalize n / 2 ^ k = m
    have e1 : ∀ x y z u : Nat, x ^^^ z ^^^ (y ^^^ u) = x ^^^ (z ^^^ u) ^^^ y := fun x y z u => by
      rw [Nat.xor_assoc, Nat.xor_assoc, Nat.xor_comm y u, ← Nat.xor_assoc z u y]
    rw [e1]
    congr 2
    rcases Nat.mod_two_eq_zero_or_one q with h1 | h1 <;> rcases Nat.mod_two_eq_zero_or_one m with h2 | h2 <;> simp [h1, h2]
theorem refB_8 (r n : Nat) (h : n < 256) : refB r n 8 = crcK 8 (r ^^^ n) := by
  rw [refB_eq, show n / 2 ^ 8 = 0 by omega, Nat.xor_zero]
theorem refB_lt {r : Nat} (n : Nat) (h : r < 4294967296) : ∀ k, refB r n k < 4294967296
  | 0 => h
  | k + 1 => by
    have := refB_lt n h k
    exact Nat.xor_lt_two_pow (n := 32) (by omega) (by split <;> omega)
/-- A number in so many bytes. -/
def bytesN (x : Nat) (size : Nat) : List Int := (List.range size).map fun i => ((x / 256 ^ i % 256 : Nat) : Int)
theorem bytesN_len (x size : Nat) : (bytesN x size).length = size := by simp [bytesN]
theorem bytesN_take (x size i : Nat) (h : i < size) : (bytesN x size).take (i + 1) = (bytesN x size).take i ++ [((x / 256 ^ i % 256 : Nat) : Int)] := by
  rw [List.take_succ_eq_append_getElem (by rw [bytesN_len]; exact h)]
  simp [bytesN]
theorem bytesN_get (x size i : Nat) (h : i < size) : (bytesN x size).getD i 0 = ((x / 256 ^ i % 256 : Nat) : Int) := by
  simp [bytesN, List.getD_eq_getElem?_getD, h]
theorem bytesN_in (x size : Nat) : ∀ y ∈ bytesN x size, 0 ≤ y ∧ y < 256 := by
  intro y hy
  obtain ⟨i, -, rfl⟩ := List.mem_map.1 hy
  omega
theorem bytesN_succ (x size : Nat) : bytesN x (size + 1) = ((x % 256 : Nat) : Int) :: bytesN (x / 256) size := by
  unfold bytesN
  rw [List.range_succ_eq_map, List.map_cons, List.map_map]
  congr 1
  · simp
  · refine List.map_congr_left fun i _ => ?_
    simp only [Function.comp, Nat.pow_succ, Nat.div_div_eq_div_mul, Nat.succ_eq_add_one, Nat.mul_comm]
theorem numY_bytesN : ∀ (size x : Nat), numY (bytesN x size) = x % 256 ^ size
  | 0, x => by simp [bytesN, numY, Nat.mod_one]
  | size + 1, x => by
    rw [bytesN_succ, numY, numY_bytesN size (x / 256), Int.toNat_natCast, Nat.pow_succ, Nat.mul_comm (256 ^ size) 256, Nat.mod_mul]
end Go.Proofs.Ytokoopdkofgabaa
