/- Lines and cells: which cells of a row a line touches. -/
import Derived.Test.YtokoopdkofgabaaEng
namespace Go.Proofs.Ytokoopdkofgabaa
/-- A quotient, rounded up. -/
def cdiv (x d : Int) : Int := -((-x) / d)
theorem cdiv_le {x d k : Int} (hd : 0 < d) : cdiv x d ≤ k ↔ x ≤ k * d := by
  have := Int.le_ediv_iff_mul_le (a := -k) (b := -x) hd
  rw [Int.neg_mul] at this
  unfold cdiv
  omega
theorem le_div {x d k : Int} (hd : 0 < d) : k ≤ x / d ↔ k * d ≤ x := Int.le_ediv_iff_mul_le hd
def along (ax ay bx by_ h : Int) : Int := ax * (by_ - ay) + (h - ay) * (bx - ax)
/-- The columns of a row of cells that a line touches, of which a is not above b. -/
def stripF (ax ay bx by_ k : Int) : Int × Int :=
  if by_ - ay = 0 then (cdiv (min ax bx) 256 - 1, max ax bx / 256) else
    (cdiv (min (along ax ay bx by_ (max ay (k * 256))) (along ax ay bx by_ (min by_ ((k + 1) * 256)))) ((by_ - ay) * 256) - 1,
      max (along ax ay bx by_ (max ay (k * 256))) (along ax ay bx by_ (min by_ ((k + 1) * 256))) / ((by_ - ay) * 256))
/-- On which side of the line a place lies. -/
def sideF (ax ay bx by_ X Y : Int) : Int := (bx - ax) * (Y - ay) - (by_ - ay) * (X - ax)
def touP (ax ay bx by_ i k : Int) : Prop :=
  (min ax bx ≤ 256 * i + 256 ∧ 256 * i ≤ max ax bx) ∧ (min ay by_ ≤ 256 * k + 256 ∧ 256 * k ≤ max ay by_) ∧
  (0 ≤ sideF ax ay bx by_ (256 * i) (256 * k) ∨ 0 ≤ sideF ax ay bx by_ (256 * i + 256) (256 * k) ∨ 0 ≤ sideF ax ay bx by_ (256 * i) (256 * k + 256) ∨ 0 ≤ sideF ax ay bx by_ (256 * i + 256) (256 * k + 256)) ∧
  (sideF ax ay bx by_ (256 * i) (256 * k) ≤ 0 ∨ sideF ax ay bx by_ (256 * i + 256) (256 * k) ≤ 0 ∨ sideF ax ay bx by_ (256 * i) (256 * k + 256) ≤ 0 ∨ sideF ax ay bx by_ (256 * i + 256) (256 * k + 256) ≤ 0)
theorem side_swap (ax ay bx by_ X Y : Int) : sideF bx by_ ax ay X Y = - sideF ax ay bx by_ X Y := by unfold sideF; grind
theorem tou_swap (ax ay bx by_ i k : Int) : touP bx by_ ax ay i k ↔ touP ax ay bx by_ i k := by
  unfold touP
  simp only [side_swap ax ay bx by_, Int.min_comm bx ax, Int.min_comm by_ ay, Int.max_comm bx ax, Int.max_comm by_ ay]
  omega
theorem side_along (ax ay bx by_ X Y : Int) : sideF ax ay bx by_ X Y = along ax ay bx by_ Y - (by_ - ay) * X := by unfold sideF along; grind
theorem along_a (ax ay bx by_ : Int) : along ax ay bx by_ ay = ax * (by_ - ay) := by unfold along; grind
theorem along_b (ax ay bx by_ : Int) : along ax ay bx by_ by_ = bx * (by_ - ay) := by unfold along; grind
theorem along_mono {ax ay bx by_ h h' : Int} (hd : ax ≤ bx) (h1 : h ≤ h') : along ax ay bx by_ h ≤ along ax ay bx by_ h' := by
  unfold along
  have := Int.mul_le_mul_of_nonneg_right (show h - ay ≤ h' - ay by omega) (show 0 ≤ bx - ax by omega)
  omega
theorem along_anti {ax ay bx by_ h h' : Int} (hd : bx ≤ ax) (h1 : h ≤ h') : along ax ay bx by_ h' ≤ along ax ay bx by_ h := by
  unfold along
  have := Int.mul_le_mul_of_nonneg_right (show h - ay ≤ h' - ay by omega) (show 0 ≤ ax - bx by omega)
  rw [show ax - bx = -(bx - ax) by omega, Int.mul_neg, Int.mul_neg] at this
  omega
theorem mul_iff {a b d : Int} (hd : 0 < d) : a * d ≤ b * d ↔ a ≤ b := ⟨fun h => Int.le_of_mul_le_mul_right h hd, fun h => Int.mul_le_mul_of_nonneg_right h (by omega)⟩
theorem strip_iff {ax ay bx by_ i k : Int} (hy : ay ≤ by_) (h1 : cdiv ay 256 - 1 ≤ k) (h2 : k ≤ by_ / 256) :
    touP ax ay bx by_ i k ↔ (stripF ax ay bx by_ k).1 ≤ i ∧ i ≤ (stripF ax ay bx by_ k).2 := by
  have h1' : ay ≤ 256 * k + 256 := by
    have := (cdiv_le (x := ay) (k := k + 1) (by omega : (0:Int) < 256)).1 (by omega)
    omega
  have h2' : 256 * k ≤ by_ := by have := (le_div (x := by_) (k := k) (by omega : (0:Int) < 256)).1 h2; omega
  unfold stripF
  split
  · rename_i h0
    simp only
    have e1 : cdiv (min ax bx) 256 - 1 ≤ i ↔ min ax bx ≤ 256 * i + 256 := by
      have := cdiv_le (x := min ax bx) (k := i + 1) (by omega : (0:Int) < 256)
      omega
    have e2 := le_div (x := max ax bx) (k := i) (by omega : (0:Int) < 256)
    rw [e1, e2]
    unfold touP
    simp only [side_along, h0, Int.zero_mul, Int.sub_zero]
    constructor
    · rintro ⟨h3, -⟩; omega
    · intro h3
      refine ⟨by omega, by omega, ?_⟩
      have ea : along ax ay bx by_ ay = 0 := by rw [along_a, h0, Int.mul_zero]
      rcases Int.le_total ax bx with hx | hx
      · have q1 := along_mono (ay := ay) (by_ := by_) hx (show 256 * k ≤ ay by omega)
        have q2 := along_mono (ay := ay) (by_ := by_) hx (show ay ≤ 256 * k + 256 by omega)
        omega
      · have q1 := along_anti (ay := ay) (by_ := by_) hx (show 256 * k ≤ ay by omega)
        have q2 := along_anti (ay := ay) (by_ := by_) hx (show ay ≤ 256 * k + 256 by omega)
        omega
  · rename_i h0
    have hd : 0 < by_ - ay := by omega
    simp only
    generalize hdy : by_ - ay = dy at *
    have e0 : ∀ z : Int, cdiv z (dy * 256) - 1 ≤ i ↔ z ≤ (256 * i + 256) * dy := by
      intro z
      have := cdiv_le (x := z) (k := i + 1) (by omega : (0:Int) < dy * 256)
      rw [show (i + 1) * (dy * 256) = (256 * i + 256) * dy by grind] at this
      omega
    have e1 : ∀ z : Int, i ≤ z / (dy * 256) ↔ (256 * i) * dy ≤ z := by
      intro z
      have := le_div (x := z) (k := i) (by omega : (0:Int) < dy * 256)
      rw [show i * (dy * 256) = (256 * i) * dy by grind] at this
      exact this
    rw [e0, e1]
    unfold touP
    have ka := along_a ax ay bx by_
    have kb := along_b ax ay bx by_
    rw [hdy] at ka kb
    have m1 := mul_iff (a := ax) (b := 256 * i + 256) hd
    have m2 := mul_iff (a := bx) (b := 256 * i + 256) hd
    have m3 := mul_iff (a := 256 * i) (b := ax) hd
    have m4 := mul_iff (a := 256 * i) (b := bx) hd
    simp only [side_along, hdy, Int.mul_comm dy]
    have hX : (256 * i) * dy ≤ (256 * i + 256) * dy := Int.mul_le_mul_of_nonneg_right (by omega) (by omega)
    rw [show k * 256 = 256 * k by omega, show (k + 1) * 256 = 256 * k + 256 by omega]
    generalize (256 * i) * dy = X0 at *
    generalize (256 * i + 256) * dy = X1 at *
    generalize ax * dy = u at *
    generalize bx * dy = v at *
    rcases Int.le_total ax bx with hx | hx
    · have q1 := along_mono (ay := ay) (by_ := by_) hx (show 256 * k ≤ 256 * k + 256 by omega)
      have q2 := along_mono (ay := ay) (by_ := by_) hx hy
      have q3 := along_mono (ay := ay) (by_ := by_) hx (show max ay (256 * k) ≤ min by_ (256 * k + 256) by omega)
      have q4 : along ax ay bx by_ (max ay (256 * k)) = max u (along ax ay bx by_ (256 * k)) := by
        rcases Int.le_total ay (256 * k) with h | h
        · have := along_mono (ay := ay) (by_ := by_) hx h
          rw [Int.max_eq_right h]; omega
        · have := along_mono (ay := ay) (by_ := by_) hx h
          rw [Int.max_eq_left h]; omega
      have q5 : along ax ay bx by_ (min by_ (256 * k + 256)) = min v (along ax ay bx by_ (256 * k + 256)) := by
        rcases Int.le_total by_ (256 * k + 256) with h | h
        · have := along_mono (ay := ay) (by_ := by_) hx h
          rw [Int.min_eq_left h]; omega
        · have := along_mono (ay := ay) (by_ := by_) hx h
          rw [Int.min_eq_right h]; omega
      rw [q4, q5] at q3 ⊢
      generalize along ax ay bx by_ (256 * k) = p0 at *
      generalize along ax ay bx by_ (256 * k + 256) = p1 at *
      omega
    · have q1 := along_anti (ay := ay) (by_ := by_) hx (show 256 * k ≤ 256 * k + 256 by omega)
      have q2 := along_anti (ay := ay) (by_ := by_) hx hy
      have q3 := along_anti (ay := ay) (by_ := by_) hx (show max ay (256 * k) ≤ min by_ (256 * k + 256) by omega)
      have q4 : along ax ay bx by_ (max ay (256 * k)) = min u (along ax ay bx by_ (256 * k)) := by
        rcases Int.le_total ay (256 * k) with h | h
        · have := along_anti (ay := ay) (by_ := by_) hx h
          rw [Int.max_eq_right h]; omega
        · have := along_anti (ay := ay) (by_ := by_) hx h
          rw [Int.max_eq_left h]; omega
      have q5 : along ax ay bx by_ (min by_ (256 * k + 256)) = max v (along ax ay bx by_ (256 * k + 256)) := by
        rcases Int.le_total by_ (256 * k + 256) with h | h
        · have := along_anti (ay := ay) (by_ := by_) hx h
          rw [Int.min_eq_left h]; omega
        · have := along_anti (ay := ay) (by_ := by_) hx h
          rw [Int.min_eq_right h]; omega
      rw [q4, q5] at q3 ⊢
      generalize along ax ay bx by_ (256 * k) = p0 at *
      generalize along ax ay bx by_ (256 * k + 256) = p1 at *
      omega
theorem strip_le (ax ay bx by_ k : Int) (hy : ay ≤ by_) : (stripF ax ay bx by_ k).1 ≤ (stripF ax ay bx by_ k).2 := by
  have key : ∀ m M d : Int, m ≤ M → 0 < d → cdiv m d - 1 ≤ M / d := by
    intro m M d h hd
    have h1 := cdiv_le (x := m) (k := M / d + 1) hd
    have h2 := Int.lt_ediv_add_one_mul_self M hd
    have := h1.2 (by omega)
    omega
  unfold stripF
  split
  · exact key _ _ _ (by omega) (by omega)
  · exact key _ _ _ (by omega) (by omega)
theorem tou_row {ax ay bx by_ i k : Int} (h : touP ax ay bx by_ i k) (hy : ay ≤ by_) : cdiv ay 256 - 1 ≤ k ∧ k ≤ by_ / 256 := by
  obtain ⟨-, h2, -⟩ := h
  have h1 := cdiv_le (x := ay) (k := k + 1) (by omega : (0:Int) < 256)
  have h3 := le_div (x := by_) (k := k) (by omega : (0:Int) < 256)
  omega
theorem mulB {a b : Int} (A B : Nat) (ha : -(A : Int) ≤ a ∧ a ≤ A) (hb : -(B : Int) ≤ b ∧ b ≤ B) : -((A * B : Nat) : Int) ≤ a * b ∧ a * b ≤ ((A * B : Nat) : Int) := by
  have h1 : a.natAbs ≤ A := by omega
  have h2 : b.natAbs ≤ B := by omega
  have h3 := Nat.mul_le_mul h1 h2
  rw [← Int.natAbs_mul] at h3
  omega
theorem div_abs (x : Int) {d : Int} (hd : 0 < d) (hx : 0 ≤ x) : 0 ≤ x / d ∧ x / d ≤ x := ⟨Int.ediv_nonneg hx (by omega), Int.ediv_le_self _ hx⟩
/-- Of a number below 0: the quotient that is rounded down, from that which is rounded to 0. -/
theorem neg_div {x d : Int} (hd : 0 < d) : x / d = if (-x) % d = 0 then -((-x) / d) else -((-x) / d) - 1 := by
  have h1 := Int.mul_ediv_add_emod (-x) d
  have h2 := Int.emod_nonneg (-x) (show d ≠ 0 by omega)
  have h3 := Int.emod_lt_of_pos (-x) hd
  split
  · rename_i h
    have : x = d * (-((-x) / d)) := by rw [Int.mul_neg]; omega
    conv => lhs; rw [this]
    rw [Int.mul_ediv_cancel_left _ (by omega)]
  · rename_i h
    refine (Int.ediv_eq_iff_of_pos hd).2 ?_
    have e : (-((-x) / d) - 1) * d = -(d * ((-x) / d)) - d := by rw [Int.sub_mul, Int.one_mul, Int.neg_mul, Int.mul_comm d]
    have e2 : (-((-x) / d) - 1 + 1) * d = -(d * ((-x) / d)) := by rw [Int.sub_add_cancel, Int.neg_mul, Int.mul_comm d]
    omega
theorem div_bnd {z d : Int} (B : Nat) (hd : 0 < d) (hz : -(B : Int) ≤ z ∧ z ≤ B) : -(B : Int) ≤ z / d ∧ z / d ≤ B := by
  constructor
  · refine (le_div hd).2 ?_
    have := Int.mul_le_mul_of_nonneg_left (show (1 : Int) ≤ d by omega) (show (0 : Int) ≤ B by omega)
    rw [Int.neg_mul]
    omega
  · have h1 := Int.mul_ediv_add_emod z d
    have h2 := Int.emod_nonneg z (show d ≠ 0 by omega)
    rcases Int.lt_or_le (z / d) 0 with h | h
    · omega
    · have := Int.mul_le_mul_of_nonneg_right (show (1 : Int) ≤ d by omega) h
      omega
theorem cdiv_bnd {z d : Int} (B : Nat) (hd : 0 < d) (hz : -(B : Int) ≤ z ∧ z ≤ B) : -(B : Int) ≤ cdiv z d ∧ cdiv z d ≤ B := by
  have := div_bnd (z := -z) B hd (by omega)
  unfold cdiv
  omega
theorem along_bnd {ax ay bx by_ h : Int} (h1 : -131072 ≤ ax ∧ ax ≤ 131072) (h2 : -131072 ≤ ay ∧ ay ≤ 131072) (h3 : -131072 ≤ bx ∧ bx ≤ 131072) (h4 : -131072 ≤ by_ ∧ by_ ≤ 131072) (h5 : -600000 ≤ h ∧ h ≤ 600000) :
    (-274877906944 ≤ ax * (by_ - ay) ∧ ax * (by_ - ay) ≤ 274877906944) ∧ (-274877906944 ≤ (h - ay) * (bx - ax) ∧ (h - ay) * (bx - ax) ≤ 274877906944) ∧ -549755813888 ≤ along ax ay bx by_ h ∧ along ax ay bx by_ h ≤ 549755813888 := by
  have a := mulB 131072 262144 (a := ax) (b := by_ - ay) (by omega) (by omega)
  have b := mulB 1048576 262144 (a := h - ay) (b := bx - ax) (by omega) (by omega)
  unfold along
  omega
end Go.Proofs.Ytokoopdkofgabaa
