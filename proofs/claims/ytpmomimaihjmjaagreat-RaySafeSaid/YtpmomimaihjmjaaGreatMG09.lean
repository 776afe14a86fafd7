import Derived.Laws.Bits64b
import Derived.Laws.BitsLemmas
import Derived.Laws.Externs
import Derived.Shelf.Spec.BitsCarry
import Derived.Test.YtpmomimaihjmjaaGreatMG08
set_option linter.unusedVariables false
set_option linter.unusedSimpArgs false
/- Lines and cells: which cells of a row a line touches. -/
namespace Go.Proofs.YtpmomimaihjmjaaGreat
/-- A quotient, rounded up. -/
def cdiv (x d : Int) : Int := -((-x) / d)
theorem cdiv_le {x d k : Int} (hd : 0 < d) : cdiv x d ≤ k ↔ x ≤ k * d := by
  have := Int.le_ediv_iff_mul_le (a := -k) (b := -x) hd
  rw [Int.neg_mul] at this
  unfold cdiv
  omega
theorem le_div {x d k : Int} (hd : 0 < d) : k ≤ x / d ↔ k * d ≤ x := Int.le_ediv_iff_mul_le hd
def along (ax ay bx by_ h : Int) : Int := ax * (by_ - ay) + (h - ay) * (bx - ax)
/-- The columns of a row of cells that a line touches, of which a is not above b. -/
def stripF (ax ay bx by_ k : Int) : Int × Int :=
  if by_ - ay = 0 then (cdiv (min ax bx) 256 - 1, max ax bx / 256) else
    (cdiv (min (along ax ay bx by_ (max ay (k * 256))) (along ax ay bx by_ (min by_ ((k + 1) * 256)))) ((by_ - ay) * 256) - 1,
      max (along ax ay bx by_ (max ay (k * 256))) (along ax ay bx by_ (min by_ ((k + 1) * 256))) / ((by_ - ay) * 256))
/-- On which side of the line a place lies. -/
def sideF (ax ay bx by_ X Y : Int) : Int := (bx - ax) * (Y - ay) - (by_ - ay) * (X - ax)
def touP (ax ay bx by_ i k : Int) : Prop :=
  (min ax bx ≤ 256 * i + 256 ∧ 256 * i ≤ max ax bx) ∧ (min ay by_ ≤ 256 * k + 256 ∧ 256 * k ≤ max ay by_) ∧
  (0 ≤ sideF ax ay bx by_ (256 * i) (256 * k) ∨ 0 ≤ sideF ax ay bx by_ (256 * i + 256) (256 * k) ∨ 0 ≤ sideF ax ay bx by_ (256 * i) (256 * k + 256) ∨ 0 ≤ sideF ax ay bx by_ (256 * i + 256) (256 * k + 256)) ∧
  (sideF ax ay bx by_ (256 * i) (256 * k) ≤ 0 ∨ sideF ax ay bx by_ (256 * i + 256) (256 * k) ≤ 0 ∨ sideF ax ay bx by_ (256 * i) (256 * k + 256) ≤ 0 ∨ sideF ax ay bx by_ (256 * i + 256) (256 * k + 256) ≤ 0)
theorem side_swap (ax ay bx by_ X Y : Int) : sideF bx by_ ax ay X Y = - sideF ax ay bx by_ X Y := by unfold sideF; grind
theorem tou_swap (ax ay bx by_ i k : Int) : touP bx by_ ax ay i k ↔ touP ax ay bx by_ i k := by
  unfold touP
  simp only [side_swap ax ay bx by_, Int.min_comm bx ax, Int.min_comm by_ ay, Int.max_comm bx ax, Int.max_comm by_ ay]
  omega
theorem side_along (ax ay bx by_ X Y : Int) : sideF ax ay bx by_ X Y = along ax ay bx by_ Y - (by_ - ay) * X := by unfold sideF along; grind
theorem along_a (ax ay bx by_ : Int) : along ax ay bx by_ ay = ax * (by_ - ay) := by unfold along; grind
theorem along_b (ax ay bx by_ : Int) : along ax ay bx by_ by_ = bx * (by_ - ay) := by unfold along; grind
theorem along_mono {ax ay bx by_ h h' : Int} (hd : ax ≤ bx) (h1 : h ≤ h') : along ax ay bx by_ h ≤ along ax ay bx by_ h' := by
  unfold along
  have := Int.mul_le_mul_of_nonneg_right (show h - ay ≤ h' - ay by omega) (show 0 ≤ bx - ax by omega)
  omega
theorem along_anti {ax ay bx by_ h h' : Int} (hd : bx ≤ ax) (h1 : h ≤ h') : along ax ay bx by_ h' ≤ along ax ay bx by_ h := by
  unfold along
  have := Int.mul_le_mul_of_nonneg_right (show h - ay ≤ h' - ay by omega) (show 0 ≤ ax - bx by omega)
  rw [show ax - bx = -(bx - ax) by omega, Int.mul_neg, Int.mul_neg] at this
  omega
theorem mul_iff {a b d : Int} (hd : 0 < d) : a * d ≤ b * d ↔ a ≤ b := ⟨fun h => Int.le_of_mul_le_mul_right h hd, fun h => Int.mul_le_mul_of_nonneg_right h (by omega)⟩
theorem strip_iff {ax ay bx by_ i k : Int} (hy : ay ≤ by_) (h1 : cdiv ay 256 - 1 ≤ k) (h2 : k ≤ by_ / 256) :
    touP ax ay bx by_ i k ↔ (stripF ax ay bx by_ k).1 ≤ i ∧ i ≤ (stripF ax ay bx by_ k).2 := by
  have h1' : ay ≤ 256 * k + 256 := by
    have := (cdiv_le (x := ay) (k := k + 1) (by omega : (0:Int) < 256)).1 (by omega)
    omega
  have h2' : 256 * k ≤ by_ := by have := (le_div (x := by_) (k := k) (by omega : (0:Int) < 256)).1 h2; omega
  unfold stripF
  split
  · rename_i h0
    simp only
    have e1 : cdiv (min ax bx) 256 - 1 ≤ i ↔ min ax bx ≤ 256 * i + 256 := by
      have := cdiv_le (x := min ax bx) (k := i + 1) (by omega : (0:Int) < 256)
      omega
    have e2 := le_div (x := max ax bx) (k := i) (by omega : (0:Int) < 256)
    rw [e1, e2]
    unfold touP
    simp only [side_along, h0, Int.zero_mul, Int.sub_zero]
    constructor
    · rintro ⟨h3, -⟩; omega
    · intro h3
      refine ⟨by omega, by omega, ?_⟩
      have ea : along ax ay bx by_ ay = 0 := by rw [along_a, h0, Int.mul_zero]
      rcases Int.le_total ax bx with hx | hx
      · have q1 := along_mono (ay := ay) (by_ := by_) hx (show 256 * k ≤ ay by omega)
        have q2 := along_mono (ay := ay) (by_ := by_) hx (show ay ≤ 256 * k + 256 by omega)
        omega
      · have q1 := along_anti (ay := ay) (by_ := by_) hx (show 256 * k ≤ ay by omega)
        have q2 := along_anti (ay := ay) (by_ := by_) hx (show ay ≤ 256 * k + 256 by omega)
        omega
  · rename_i h0
    have hd : 0 < by_ - ay := by omega
    simp only
    generalize hdy : by_ - ay = dy at *
    have e0 : ∀ z : Int, cdiv z (dy * 256) - 1 ≤ i ↔ z ≤ (256 * i + 256) * dy := by
      intro z
      have := cdiv_le (x := z) (k := i + 1) (by omega : (0:Int) < dy * 256)
      rw [show (i + 1) * (dy * 256) = (256 * i + 256) * dy by grind] at this
      omega
    have e1 : ∀ z : Int, i ≤ z / (dy * 256) ↔ (256 * i) * dy ≤ z := by
      intro z
      have := le_div (x := z) (k := i) (by omega : (0:Int) < dy * 256)
      rw [show i * (dy * 256) = (256 * i) * dy by grind] at this
      exact this
    rw [e0, e1]
    unfold touP
    have ka := along_a ax ay bx by_
    have kb := along_b ax ay bx by_
    rw [hdy] at ka kb
    have m1 := mul_iff (a := ax) (b := 256 * i + 256) hd
    have m2 := mul_iff (a := bx) (b := 256 * i + 256) hd
    have m3 := mul_iff (a := 256 * i) (b := ax) hd
    have m4 := mul_iff (a := 256 * i) (b := bx) hd
    simp only [side_along, hdy, Int.mul_comm dy]
    have hX : (256 * i) * dy ≤ (256 * i + 256) * dy := Int.mul_le_mul_of_nonneg_right (by omega) (by omega)
    rw [show k * 256 = 256 * k by omega, show (k + 1) * 256 = 256 * k + 256 by omega]
    generalize (256 * i) * dy = X0 at *
    generalize (256 * i + 256) * dy = X1 at *
    generalize ax * dy = u at *
    generalize bx * dy = v at *
    rcases Int.le_total ax bx with hx | hx
    · have q1 := along_mono (ay := ay) (by_ := by_) hx (show 256 * k ≤ 256 * k + 256 by omega)
      have q2 := along_mono (ay := ay) (by_ := by_) hx hy
      have q3 := along_mono (ay := ay) (by_ := by_) hx (show max ay (256 * k) ≤ min by_ (256 * k + 256) by omega)
      have q4 : along ax ay bx by_ (max ay (256 * k)) = max u (along ax ay bx by_ (256 * k)) := by
        rcases Int.le_total ay (256 * k) with h | h
        · have := along_mono (ay := ay) (by_ := by_) hx h
          rw [Int.max_eq_right h]; omega
        · have := along_mono (ay := ay) (by_ := by_) hx h
          rw [Int.max_eq_left h]; omega
      have q5 : along ax ay bx by_ (min by_ (256 * k + 256)) = min v (along ax ay bx by_ (256 * k + 256)) := by
        rcases Int.le_total by_ (256 * k + 256) with h | h
        · have := along_mono (ay := ay) (by_ := by_) hx h
          rw [Int.min_eq_left h]; omega
        · have := along_mono (ay := ay) (by_ := by_) hx h
          rw [Int.min_eq_right h]; omega
      rw [q4, q5] at q3 ⊢
      generalize along ax ay bx by_ (256 * k) = p0 at *
      generalize along ax ay bx by_ (256 * k + 256) = p1 at *
      omega
    · have q1 := along_anti (ay := ay) (by_ := by_) hx (show 256 * k ≤ 256 * k + 256 by omega)
      have q2 := along_anti (ay := ay) (by_ := by_) hx hy
      have q3 := along_anti (ay := ay) (by_ := by_) hx (show max ay (256 * k) ≤ min by_ (256 * k + 256) by omega)
      have q4 : along ax ay bx by_ (max ay (256 * k)) = min u (along ax ay bx by_ (256 * k)) := by
        rcases Int.le_total ay (256 * k) with h | h
        · have := along_anti (ay := ay) (by_ := by_) hx h
          rw [Int.max_eq_right h]; omega
        · have := along_anti (ay := ay) (by_ := by_) hx h
          rw [Int.max_eq_left h]; omega
      have q5 : along ax ay bx by_ (min by_ (256 * k + 256)) = max v (along ax ay bx by_ (256 * k + 256)) := by
        rcases Int.le_total by_ (256 * k + 256) with h | h
        · have := along_anti (ay := ay) (by_ := by_) hx h
          rw [Int.min_eq_left h]; omega
        · have := along_anti (ay := ay) (by_ := by_) hx h
          rw [Int.min_eq_right h]; omega
      rw [q4, q5] at q3 ⊢
      generalize along ax ay bx by_ (256 * k) = p0 at *
      generalize along ax ay bx by_ (256 * k + 256) = p1 at *
      omega
theorem strip_le (ax ay bx by_ k : Int) (hy : ay ≤ by_) : (stripF ax ay bx by_ k).1 ≤ (stripF ax ay bx by_ k).2 := by
  have key : ∀ m M d : Int, m ≤ M → 0 < d → cdiv m d - 1 ≤ M / d := by
    intro m M d h hd
    have h1 := cdiv_le (x := m) (k := M / d + 1) hd
    have h2 := Int.lt_ediv_add_one_mul_self M hd
    have := h1.2 (by omega)
    omega
  unfold stripF
  split
  · exact key _ _ _ (by omega) (by omega)
  · exact key _ _ _ (by omega) (by omega)
theorem tou_row {ax ay bx by_ i k : Int} (h : touP ax ay bx by_ i k) (hy : ay ≤ by_) : cdiv ay 256 - 1 ≤ k ∧ k ≤ by_ / 256 := by
  obtain ⟨-, h2, -⟩ := h
  have h1 := cdiv_le (x := ay) (k := k + 1) (by omega : (0:Int) < 256)
  have h3 := le_div (x := by_) (k := k) (by omega : (0:Int) < 256)
  omega
theorem mulB {a b : Int} (A B : Nat) (ha : -(A : Int) ≤ a ∧ a ≤ A) (hb : -(B : Int) ≤ b ∧ b ≤ B) : -((A * B : Nat) : Int) ≤ a * b ∧ a * b ≤ ((A * B : Nat) : Int) := by
  have h1 : a.natAbs ≤ A := by omega
  have h2 : b.natAbs ≤ B := by omega
  have h3 := Nat.mul_le_mul h1 h2
  rw [← Int.natAbs_mul] at h3
  omega
theorem div_abs (x : Int) {d : Int} (hd : 0 < d) (hx : 0 ≤ x) : 0 ≤ x / d ∧ x / d ≤ x := ⟨Int.ediv_nonneg hx (by omega), Int.ediv_le_self _ hx⟩
/-- Of a number below 0: the quotient that is rounded down, from that which is rounded to 0. -/
theorem neg_div {x d : Int} (hd : 0 < d) : x / d = if (-x) % d = 0 then -((-x) / d) else -((-x) / d) - 1 := by
  have h1 := Int.mul_ediv_add_emod (-x) d
  have h2 := Int.emod_nonneg (-x) (show d ≠ 0 by omega)
  have h3 := Int.emod_lt_of_pos (-x) hd
  split
  · rename_i h
    have : x = d * (-((-x) / d)) := by rw [Int.mul_neg]; omega
    conv => lhs; rw [this]
    rw [Int.mul_ediv_cancel_left _ (by omega)]
  · rename_i h
    refine (Int.ediv_eq_iff_of_pos hd).2 ?_
    have e : (-((-x) / d) - 1) * d = -(d * ((-x) / d)) - d := by rw [Int.sub_mul, Int.one_mul, Int.neg_mul, Int.mul_comm d]
    have e2 : (-((-x) / d) - 1 + 1) * d = -(d * ((-x) / d)) := by rw [Int.sub_add_cancel, Int.neg_mul, Int.mul_comm d]
    omega
theorem div_bnd {z d : Int} (B : Nat) (hd : 0 < d) (hz : -(B : Int) ≤ z ∧ z ≤ B) : -(B : Int) ≤ z / d ∧ z / d ≤ B := by
  constructor
  · refine (le_div hd).2 ?_
    have := Int.mul_le_mul_of_nonneg_left (show (1 : Int) ≤ d by omega) (show (0 : Int) ≤ B by omega)
    rw [Int.neg_mul]
    omega
  · have h1 := Int.mul_ediv_add_emod z d
    have h2 := Int.emod_nonneg z (show d ≠ 0 by omega)
    rcases Int.lt_or_le (z / d) 0 with h | h
    · omega
    · have := Int.mul_le_mul_of_nonneg_right (show (1 : Int) ≤ d by omega) h
      omega
theorem cdiv_bnd {z d : Int} (B : Nat) (hd : 0 < d) (hz : -(B : Int) ≤ z ∧ z ≤ B) : -(B : Int) ≤ cdiv z d ∧ cdiv z d ≤ B := by
  have := div_bnd (z := -z) B hd (by omega)
  unfold cdiv
  omega
theorem along_bnd {ax ay bx by_ h : Int} (h1 : -131072 ≤ ax ∧ ax ≤ 131072) (h2 : -131072 ≤ ay ∧ ay ≤ 131072) (h3 : -131072 ≤ bx ∧ bx ≤ 131072) (h4 : -131072 ≤ by_ ∧ by_ ≤ 131072) (h5 : -600000 ≤ h ∧ h ≤ 600000) :
    (-274877906944 ≤ ax * (by_ - ay) ∧ ax * (by_ - ay) ≤ 274877906944) ∧ (-274877906944 ≤ (h - ay) * (bx - ax) ∧ (h - ay) * (bx - ax) ≤ 274877906944) ∧ -549755813888 ≤ along ax ay bx by_ h ∧ along ax ay bx by_ h ≤ 549755813888 := by
  have a := mulB 131072 262144 (a := ax) (b := by_ - ay) (by omega) (by omega)
  have b := mulB 1048576 262144 (a := h - ay) (b := bx - ax) (by omega) (by omega)
  unfold along
  omega
end Go.Proofs.YtpmomimaihjmjaaGreat
/- Package wide, and the roots. -/
namespace Go.Proofs.YtpmomimaihjmjaaGreat
open Go.RowKit
/-- A call that the model answers on its own. -/
class XV (P : Program) (f : FuncId) (us : List Value) (v : outParam Value) (c : outParam Prop) : Prop where h : c → ∀ w, (callFunc f us.toArray).run P w = .ok (.value v) w
section
variable {F : Fence} {n : Nat} {P : Program} {N : Nat} {ds : List Deferred} {w0 : World} {W : Nat → Prop} {σ : List (Nat × Value)} {H R S : List HE} {Q : Exit → Act → World → Prop}
variable {ops : Array Oper} {rest : List Oper} {d : Nat} {ty : TypeId} {pos : String} {aft : Array Edge} {gd : Option (Nat × Bool)} {v : Value} {us : List Value} {c : Prop}
theorem lxv [Wide F] {f : FuncId} {args : Array Operand} {ts : Array TypeId} (hw : wantd ops σ ⟨some d, .call ⟨.value (.func f), args, ts⟩, ty, pos, aft, gd⟩ = some true) (hv : vals σ args.toList = some us) [hx : XV P f us v c] (hdN : Nat.blt d N = true) (hc : c)
    (h : J N ds w0 W ((d, v) :: σ) H (wpListIn F n P ops Q rest)) : J N ds w0 W σ H (wpListIn F n P ops Q (⟨some d, .call ⟨.value (.func f), args, ts⟩, ty, pos, aft, gd⟩ :: rest)) := by
  refine l_run hw (o_val (by simp) rfl hdN (fun a w ha _ => ?_) h)
  have hargs : args.map a.eval = us.toArray := by
    rw [← vals_map ha hv]
    apply Array.ext'
    simp
  have hf : a.eval (.func f) = .func (.func f) #[] #[] := rfl
  have e0 : (#[] ++ us.toArray ++ #[] : Array Value) = us.toArray := by simp
  simp only [execOp, resolve, invoke, Deferred.ofValue, Sem.run_bind, Sem.run_pure, Result.andThen_ok, hf, hargs, e0, hx.h hc w]
end
instance add64_x (x y c : Int) : XV Tryz.prog 76 [.int .u64 x, .int .u64 y, .int .u64 c] (.tuple #[.int .u64 ((x + y + c) % 18446744073709551616), .int .u64 ((x + y + c) / 18446744073709551616)]) (0 ≤ x ∧ 0 ≤ y ∧ 0 ≤ c ∧ c ≤ 1) := ⟨fun hc w => by
  have := run_callFunc_extern (e := add64Entry) Tryz.func76 (by kernel_rfl) (by kernel_rfl) (by kernel_rfl) (by kernel_rfl) [.int .u64 x, .int .u64 y, .int .u64 c].toArray w
  rw [this, run_add64 x y c (by omega) (by omega) (by omega) (by omega)]
  rfl⟩
theorem and_mask {a : Int} (h : 0 ≤ a ∧ a < 18446744073709551616) : bits .and .u64 a 4294967295 = a % 4294967296 := by
  have := bits_mask .u64 64 (by decide) (fun n h0 h1 => by rw [IntKind.wrap_u64]; omega) 32 (by decide) a h.1 (by omega)
  exact this
theorem shr32 (a : Int) : a / 2 ^ (OfNat.ofNat 32 : Nat) = a / 4294967296 := rfl
theorem mul64_key {x0 x1 y0 y1 : Int} (hx0 : 0 ≤ x0 ∧ x0 < 4294967296) (hx1 : 0 ≤ x1 ∧ x1 < 4294967296) (hy0 : 0 ≤ y0 ∧ y0 < 4294967296) (hy1 : 0 ≤ y1 ∧ y1 < 4294967296) :
    (0 ≤ x0 * y0 ∧ x0 * y0 ≤ 18446744065119617025) ∧ (0 ≤ x1 * y0 ∧ x1 * y0 ≤ 18446744065119617025) ∧ (0 ≤ x0 * y1 ∧ x0 * y1 ≤ 18446744065119617025) ∧ (0 ≤ x1 * y1 ∧ x1 * y1 ≤ 18446744065119617025) ∧
    (x1 * 4294967296 + x0) * (y1 * 4294967296 + y0) = x1 * y1 * 18446744073709551616 + (x1 * y0 + x0 * y1) * 4294967296 + x0 * y0 := by
  have key : ∀ a b : Int, 0 ≤ a ∧ a < 4294967296 → 0 ≤ b ∧ b < 4294967296 → 0 ≤ a * b ∧ a * b ≤ 18446744065119617025 := fun a b ha hb => by
    have h1 := Int.mul_le_mul (show a ≤ 4294967295 by omega) (show b ≤ 4294967295 by omega) hb.1 (by omega)
    exact ⟨Int.mul_nonneg ha.1 hb.1, by omega⟩
  exact ⟨key _ _ hx0 hy0, key _ _ hx1 hy0, key _ _ hx0 hy1, key _ _ hx1 hy1, by grind⟩
attribute [local irreducible] OJ J HdJ Code.wpIn wpListIn Oper.wpIn bodyPost CallsIn Does
set_option maxRecDepth 4000
set_option maxHeartbeats 8000000 in
instance mul64_any (x y : Int) : CV Tryz.prog 75 [.int .u64 x, .int .u64 y] (.tuple #[.int .u64 (x * y / 18446744073709551616), .int .u64 (x * y % 18446744073709551616)]) ((0 ≤ x ∧ x < 18446744073709551616) ∧ (0 ≤ y ∧ y < 18446744073709551616)) := ⟨fun hc w => by
  refine does_of Tryz.func75 rfl Tryz.ntmps75 rfl ⟨by simp, .nil⟩ (fun n => ?_)
  simp only [slots]
  refine z_gob
  refine j_out2 rfl rfl rfl Sub.au ⟨?_, rfl⟩
  obtain ⟨h1, h2, h3, h4, h5⟩ := mul64_key (x0 := x % 4294967296) (x1 := x / 4294967296) (y0 := y % 4294967296) (y1 := y / 4294967296) (by omega) (by omega) (by omega) (by omega)
  rw [show x / 4294967296 * 4294967296 + x % 4294967296 = x by omega, show y / 4294967296 * 4294967296 + y % 4294967296 = y by omega] at h5
  simp only [shr32, IntKind.wrap_u64, and_mask hc.1, and_mask hc.2]
  rw [and_mask (by omega)]
  generalize x % 4294967296 * (y % 4294967296) = p00 at *
  generalize x / 4294967296 * (y % 4294967296) = p10 at *
  generalize x % 4294967296 * (y / 4294967296) = p01 at *
  generalize x / 4294967296 * (y / 4294967296) = p11 at *
  generalize x * y = z at *
  congr 4
  omega⟩
/-- A number of 128 bits. -/
@[reducible] def wideV (z : Int) : List Value := [.int .i64 (z / 18446744073709551616), .int .u64 (z % 18446744073709551616)]
def absI (x : Int) : Int := if x < 0 then -x else x
theorem absI_sq (x : Int) : absI x * absI x = x * x := by unfold absI; split; exact Int.neg_mul_neg x x; rfl
theorem conv_u64 {x : Int} (h : -9223372036854775808 ≤ x ∧ x < 0) : IntKind.u64.wrap x = x + 18446744073709551616 := by rw [IntKind.wrap_u64]; omega
set_option maxHeartbeats 4000000 in
instance magnitude_any (x : Int) : CV Tryz.prog 71 [.int .i64 x] (.int .u64 (absI x)) (InR .i64 x) := ⟨fun hc w => by
  refine does_of Tryz.func71 rfl Tryz.ntmps71 rfl ⟨by simp, .nil⟩ (fun n => ?_)
  simp only [slots]
  simp only [InR] at hc
  refine z_gob
  all_goals exact j_out1 rfl rfl Sub.au ⟨congrArg (Value.int .u64) (by unfold absI; split <;> (first | (simp only [IntKind.wrap_u64]; omega) | omega)), rfl⟩⟩
set_option maxHeartbeats 4000000 in
/-- The square of a number that is not too great. -/
instance mulsq_any (x : Int) : CV Tryz.prog 51 [.int .i64 x, .int .i64 x] (.agg (wideV (x * x)).toArray) (-2147483648 ≤ x ∧ x ≤ 2147483648) := ⟨fun hc w => by
  have h0 : 0 ≤ absI x ∧ absI x ≤ 2147483648 := by unfold absI; split <;> omega
  have h1 := mulB 2147483648 2147483648 (a := x) (b := x) (by omega) (by omega)
  have h2 := absI_sq x
  have h3 : 0 ≤ x * x := by rw [← h2]; exact Int.mul_nonneg h0.1 h0.1
  refine does_of Tryz.func51 rfl Tryz.ntmps51 rfl ⟨by simp, .nil⟩ (fun n => ?_)
  simp only [slots]
  rw [← h2] at h1 h3 ⊢
  refine z_gob
  refine z_ro
  exact ⟨rfl, rfl⟩⟩
theorem wide_eq {A B A' B' : Int} {c : Bool} (h1 : A = A') (h2 : B = B') (h3 : c = true) : retV [.agg #[.int .i64 A, .int .u64 B], .bool c] = Value.tuple #[.agg #[.int .i64 A', .int .u64 B'], .bool true] := by subst h1 h2 h3; rfl
set_option maxHeartbeats 4000000 in
instance addw_any (x y : Int) : CV Tryz.prog 56 [.agg (wideV x).toArray, .agg (wideV y).toArray] (.tuple #[.agg (wideV (x + y)).toArray, .bool true]) ((0 ≤ x ∧ x < 4611686018427387904) ∧ (0 ≤ y ∧ y < 4611686018427387904)) := ⟨fun hc w => by
  refine does_of Tryz.func56 rfl Tryz.ntmps56 rfl ⟨by simp, .nil⟩ (fun n => ?_)
  simp only [slots]
  simp only [wideV]
  rw [show x / 18446744073709551616 = 0 by omega, show y / 18446744073709551616 = 0 by omega]
  refine z_gob
  refine c_dre 1 rfl rfl (by decide) (by decide +kernel) ?_
  refine z_gob
  all_goals (refine z_ro; refine ⟨wide_eq (by omega) (by omega) ?_, rfl⟩)
  all_goals first | rfl | (simp; omega)⟩
def orB (r : Int) (k : Nat) : Int := bits .or .u64 r (IntKind.u64.wrap (1 * 2 ^ (min ((63 : Int) - k).toNat IntKind.u64.bits)))
/-- The root, bit by bit, of a number of which the upper half is 0. -/
def rootTo (s : Int) : Nat → Int
  | 0 => 0
  | k + 1 => if orB (rootTo s k) k * orB (rootTo s k) k / 18446744073709551616 = 0 ∧ orB (rootTo s k) k * orB (rootTo s k) k % 18446744073709551616 ≤ s then orB (rootTo s k) k else rootTo s k
theorem or_in (a b : Int) : 0 ≤ bits .or .u64 a b ∧ bits .or .u64 a b < 18446744073709551616 := by
  have h : ∀ z : Int, 0 ≤ IntKind.u64.wrap z ∧ IntKind.u64.wrap z < 18446744073709551616 := fun z => by rw [IntKind.wrap_u64]; omega
  exact h _
theorem rootTo_in (s : Int) : ∀ k, 0 ≤ rootTo s k ∧ rootTo s k < 18446744073709551616
  | 0 => by simp [rootTo]
  | k + 1 => by
    unfold rootTo
    split
    · exact or_in _ _
    · exact rootTo_in s k
set_option maxHeartbeats 8000000 in
instance rootw_any (s : Int) : CV Tryz.prog 57 [.agg (wideV s).toArray] (.int .u64 (rootTo s 64)) (0 ≤ s ∧ s < 4611686018427387904) := ⟨fun hc w => by
  refine does_of Tryz.func57 rfl Tryz.ntmps57 rfl ⟨by simp, .nil⟩ (fun n => ?_)
  simp only [slots, wideV]
  rw [show s / 18446744073709551616 = 0 by omega, show s % 18446744073709551616 = s by omega]
  refine z_gob
  rename_i b1
  refine c_loop (X := Nat) (fun k => k ≤ 64) (fun k => [(1, .pointer (some ⟨b1, 0, none⟩)), (3, .int .u64 (rootTo s k)), (4, .int .i64 (63 - k))]) (fun _ => [.blk b1 128 [.int .i64 0, .int .u64 s]]) (fun k => 64 - k) 0 (by simp) ⟨rfl, rfl, rfl, trivial⟩ Sub.au ?_
  intro k hk
  have h1 := rootTo_in s k
  have h2 := or_in (rootTo s k) (IntKind.u64.wrap (1 * 2 ^ (min ((63 : Int) - k).toNat IntKind.u64.bits)))
  have e := rootTo.eq_2 s k
  unfold orB at e
  refine z_gob
  · generalize bits .or .u64 (rootTo s k) (IntKind.u64.wrap (1 * 2 ^ (min ((63 : Int) - k).toNat IntKind.u64.bits))) = p at *
    rw [if_pos (by omega)] at e
    exact c_round (k + 1) (by show k + 1 ≤ 64; omega) (by show 64 - (k + 1) < 64 - k; omega) ⟨rfl, by rw [e]; rfl, by simp [look]; omega, trivial⟩ Sub.au
  · generalize bits .or .u64 (rootTo s k) (IntKind.u64.wrap (1 * 2 ^ (min ((63 : Int) - k).toNat IntKind.u64.bits))) = p at *
    rw [if_neg (by omega)] at e
    exact c_round (k + 1) (by show k + 1 ≤ 64; omega) (by show 64 - (k + 1) < 64 - k; omega) ⟨rfl, by rw [e]; rfl, by simp [look]; omega, trivial⟩ Sub.au
  · generalize bits .or .u64 (rootTo s k) (IntKind.u64.wrap (1 * 2 ^ (min ((63 : Int) - k).toNat IntKind.u64.bits))) = p at *
    rw [if_neg (by omega)] at e
    exact c_round (k + 1) (by show k + 1 ≤ 64; omega) (by show 64 - (k + 1) < 64 - k; omega) ⟨rfl, by rw [e]; rfl, by simp [look]; omega, trivial⟩ Sub.au
  · obtain rfl : k = 64 := by omega
    refine z_ro
    exact ⟨rfl, rfl⟩⟩
set_option maxHeartbeats 4000000 in
instance hypot_any (x y : Int) : CV Tryz.prog 30 [.int .i64 x, .int .i64 y] (.tuple #[.int .u64 (rootTo (x * x + y * y) 64), .bool true]) ((-1000000 ≤ x ∧ x ≤ 1000000) ∧ (-1000000 ≤ y ∧ y ≤ 1000000)) := ⟨fun hc w => by
  have h1 := mulB 1000000 1000000 (a := x) (b := x) (by omega) (by omega)
  have h2 := mulB 1000000 1000000 (a := y) (b := y) (by omega) (by omega)
  have h3 : 0 ≤ x * x := by rw [← absI_sq]; have : 0 ≤ absI x := by (unfold absI; split <;> omega)
                            exact Int.mul_nonneg this this
  have h4 : 0 ≤ y * y := by rw [← absI_sq]; have : 0 ≤ absI y := by (unfold absI; split <;> omega)
                            exact Int.mul_nonneg this this
  have h5 := rootTo_in (x * x + y * y) 64
  refine does_of Tryz.func30 rfl Tryz.ntmps30 rfl ⟨by simp, .nil⟩ (fun n => ?_)
  simp only [slots]
  refine z_gob
  refine z_ro
  exact ⟨rfl, rfl⟩⟩
end Go.Proofs.YtpmomimaihjmjaaGreat
/- Package wide: products of both signs, quotients. -/
namespace Go.Proofs.YtpmomimaihjmjaaGreat
open Go.RowKit
instance sub64_x (x y c : Int) : XV Tryz.prog 85 [.int .u64 x, .int .u64 y, .int .u64 c] (.tuple #[.int .u64 ((x - y - c) % 18446744073709551616), .int .u64 (if x < y + c then 1 else 0)]) ((0 ≤ x ∧ x < 18446744073709551616) ∧ (0 ≤ y ∧ y < 18446744073709551616) ∧ 0 ≤ c ∧ c ≤ 1) := ⟨fun hc w => by
  obtain ⟨X, rfl⟩ : ∃ n : Nat, x = n := ⟨x.toNat, by omega⟩
  obtain ⟨Y, rfl⟩ : ∃ n : Nat, y = n := ⟨y.toNat, by omega⟩
  obtain ⟨C, rfl⟩ : ∃ n : Nat, c = n := ⟨c.toNat, by omega⟩
  have := run_callFunc_extern (e := sub64Entry) Tryz.func85 (by kernel_rfl) (by kernel_rfl) (by kernel_rfl) (by kernel_rfl) [.int .u64 (X : Int), .int .u64 (Y : Int), .int .u64 (C : Int)].toArray w
  rw [this, run_sub64 X Y C (by omega)]
  have e1 : (((X + 18446744073709551616 - Y - C) % 18446744073709551616 : Nat) : Int) = ((X : Int) - Y - C) % 18446744073709551616 := by omega
  have e2 : ((if X < Y + C then 1 else 0 : Nat) : Int) = if (X : Int) < Y + C then 1 else 0 := by
    split <;> rename_i h
    · rw [if_pos (by omega)]; rfl
    · rw [if_neg (by omega)]; rfl
  rw [e1, e2]
  rfl⟩
theorem wideA_eq {A B A' B' : Int} (h1 : A = A') (h2 : B = B') : retV [.agg #[.int .i64 A, .int .u64 B]] = Value.agg #[.int .i64 A', .int .u64 B'] := by subst h1 h2; rfl
attribute [local irreducible] OJ J HdJ Code.wpIn wpListIn Oper.wpIn bodyPost CallsIn Does
set_option maxRecDepth 4000
set_option maxHeartbeats 8000000 in
instance negw_any (z : Int) : CV Tryz.prog 70 [.agg (wideV z).toArray] (.agg (wideV (-z)).toArray) (-4611686018427387904 ≤ z ∧ z ≤ 4611686018427387904) := ⟨fun hc w => by
  refine does_of Tryz.func70 rfl Tryz.ntmps70 rfl ⟨by simp, .nil⟩ (fun n => ?_)
  simp only [slots]
  refine z_gob
  refine z_ro
  refine ⟨wideA_eq ?_ (by omega), rfl⟩
  rw [IntKind.wrap_u64, IntKind.wrap_u64, IntKind.wrap_u64, IntKind.wrap_i64]
  split <;> omega⟩
theorem absI_mul (a b : Int) : absI a * absI b = absI (a * b) := by
  unfold absI
  rcases Int.lt_or_le a 0 with ha | ha <;> rcases Int.lt_or_le b 0 with hb | hb
  · rw [if_pos ha, if_pos hb, if_neg (by have := Int.mul_pos_of_neg_of_neg ha hb; omega), Int.neg_mul_neg]
  · rw [if_pos ha, if_neg (by omega)]
    rcases Int.lt_or_le 0 b with h0 | h0
    · rw [if_pos (Int.mul_neg_of_neg_of_pos ha h0), Int.neg_mul]
    · obtain rfl : b = 0 := by omega
      simp
  · rw [if_pos hb, if_neg (by omega)]
    rcases Int.lt_or_le 0 a with h0 | h0
    · rw [if_pos (Int.mul_neg_of_pos_of_neg h0 hb), Int.mul_neg]
    · obtain rfl : a = 0 := by omega
      simp
  · rw [if_neg (by omega), if_neg (by omega), if_neg (by have := Int.mul_nonneg ha hb; omega)]
theorem absI_sgn (a b : Int) (h : (a < 0) = (b < 0) ∨ a * b = 0) : absI (a * b) = a * b := by
  rcases h with h | h
  · unfold absI
    rcases Int.lt_or_le a 0 with ha | ha
    · rw [if_neg (by have := Int.mul_pos_of_neg_of_neg ha (h ▸ ha); omega)]
    · have hb : ¬ b < 0 := h ▸ (by omega : ¬ a < 0)
      rw [if_neg (by have := Int.mul_nonneg ha (by omega : 0 ≤ b); omega)]
  · rw [h]; rfl
theorem absI_neg (a b : Int) (h : (a < 0) ≠ (b < 0)) : - absI (a * b) = a * b := by
  unfold absI
  rcases Int.lt_or_le a 0 with ha | ha <;> rcases Int.lt_or_le b 0 with hb | hb
  · exact absurd (propext ⟨fun _ => hb, fun _ => ha⟩) h
  · have := Int.mul_nonpos_of_nonpos_of_nonneg (by omega : a ≤ 0) hb
    split <;> omega
  · have := Int.mul_nonpos_of_nonneg_of_nonpos ha (by omega : b ≤ 0)
    split <;> omega
  · exact absurd (propext ⟨fun _ => by omega, fun _ => by omega⟩) h
instance mulw_any (a b : Int) : CV Tryz.prog 51 [.int .i64 a, .int .i64 b] (.agg (wideV (a * b)).toArray) (InR .i64 a ∧ InR .i64 b ∧ -4611686018427387904 ≤ a * b ∧ a * b ≤ 4611686018427387904) := ⟨fun hc w => by
  have h1 := absI_mul a b
  have h2 : 0 ≤ absI (a * b) ∧ absI (a * b) ≤ 4611686018427387904 := by unfold absI; split <;> omega
  have ha : 0 ≤ absI a ∧ absI a < 18446744073709551616 := by unfold absI; split <;> omega
  have hb : 0 ≤ absI b ∧ absI b < 18446744073709551616 := by unfold absI; split <;> omega
  refine does_of Tryz.func51 rfl Tryz.ntmps51 rfl ⟨by simp, .nil⟩ (fun n => ?_)
  simp only [slots]
  rw [← h1] at h2
  refine z_gob
  · rename_i h
    refine z_ro
    refine ⟨?_, rfl⟩
    rw [h1, absI_neg a b (fun e => h (by rw [e]))]
    rfl
  · rename_i h
    refine z_ro
    refine ⟨?_, rfl⟩
    rw [h1, absI_sgn a b (.inl (propext (Classical.not_not.1 h)))]
    rfl⟩
/-- How a quotient is rounded: the magnitude one more? -/
def upB (mode rest by' : Int) (minus : Bool) : Bool := decide (rest ≠ 0) && ((decide (mode = 0) && minus) || (decide (mode = 1) && !minus) || (decide (mode = 2) && (decide (by' < 2 * rest) || (decide (by' = 2 * rest) && !minus))))
instance up_any (mode rest by' : Int) (minus : Bool) : CV Tryz.prog 73 [.int .i64 mode, .int .u64 rest, .int .u64 by', .bool minus] (.bool (upB mode rest by' minus)) (0 ≤ rest ∧ rest < by' ∧ by' < 9223372036854775808) := ⟨fun hc w => by
  refine does_of Tryz.func73 rfl Tryz.ntmps73 rfl ⟨by simp, .nil⟩ (fun n => ?_)
  simp only [slots]
  cases minus
  all_goals refine z_gob
  all_goals first
    | exact j_out1 rfl rfl (.nil _) ⟨congrArg Value.bool (by unfold upB; simp; omega), rfl⟩
    | fail⟩
theorem two_eq {A A' : Int} {c : Bool} (h1 : A = A') (h2 : c = true) : retV [.int .i64 A, .bool c] = Value.tuple #[.int .i64 A', .bool true] := by subst h1 h2; rfl
instance signed_any (m : Int) (minus : Bool) : CV Tryz.prog 74 [.int .u64 m, .bool minus] (.tuple #[.int .i64 (bif minus then -m else m), .bool true]) (0 ≤ m ∧ m < 9223372036854775808) := ⟨fun hc w => by
  refine does_of Tryz.func74 rfl Tryz.ntmps74 rfl ⟨by simp, .nil⟩ (fun n => ?_)
  simp only [slots]
  cases minus
  all_goals refine z_gob
  all_goals refine z_ro
  · exact ⟨two_eq rfl (decide_eq_true (by omega)), rfl⟩
  · exact ⟨two_eq (by show IntKind.i64.wrap (IntKind.u64.wrap (0 - m)) = -m; rw [IntKind.wrap_u64, IntKind.wrap_i64]; omega) (decide_eq_true (by omega)), rfl⟩⟩
instance div64_0 (lo y : Int) : CV Tryz.prog 72 [.int .u64 0, .int .u64 lo, .int .u64 y] (.tuple #[.int .u64 (lo / y), .int .u64 (lo % y)]) ((0 ≤ lo ∧ lo < 18446744073709551616) ∧ 0 < y ∧ y < 18446744073709551616) := ⟨fun hc w => by
  refine does_of Tryz.func72 rfl Tryz.ntmps72 rfl ⟨by simp, .nil⟩ (fun n => ?_)
  simp only [slots]
  refine z_gob
  exact j_out2 rfl rfl rfl (.nil _) ⟨rfl, rfl⟩⟩
/-- A quotient, rounded. -/
def divV (z b mode : Int) : Int := bif decide (z < 0) then -(absI z / b + if upB mode (absI z % b) b (decide (z < 0)) then 1 else 0) else absI z / b + if upB mode (absI z % b) b (decide (z < 0)) then 1 else 0
set_option maxHeartbeats 16000000 in
instance divw_any (z b mode : Int) : CV Tryz.prog 50 [.agg (wideV z).toArray, .int .i64 b, .int .i64 mode] (.tuple #[.int .i64 (divV z b mode), .int .i64 0]) ((-4611686018427387904 ≤ z ∧ z ≤ 4611686018427387904) ∧ (0 < b ∧ b ≤ 4611686018427387904) ∧ 0 ≤ mode ∧ mode ≤ 3) := ⟨fun hc w => by
  obtain ⟨⟨c1, c2⟩, ⟨c3, c4⟩, c5, c6⟩ := hc
  have hab : absI b = b := by unfold absI; rw [if_neg (by omega)]
  have hq : 0 ≤ absI z / b ∧ absI z / b ≤ 4611686018427387904 := by
    have h0 : 0 ≤ absI z ∧ absI z ≤ 4611686018427387904 := by unfold absI; split <;> omega
    exact ⟨Int.ediv_nonneg h0.1 (by omega), Int.le_trans (Int.ediv_le_self _ h0.1) h0.2⟩
  have hr : 0 ≤ absI z % b ∧ absI z % b < b := ⟨Int.emod_nonneg _ (by omega), Int.emod_lt_of_pos _ c3⟩
  refine does_of Tryz.func50 rfl Tryz.ntmps50 rfl ⟨by simp, .nil⟩ (fun n => ?_)
  simp only [slots]
  rcases Int.lt_or_le z 0 with hz | hz
  · have hz1 : z / 18446744073709551616 = -1 := by omega
    have ez : absI z = -z := by unfold absI; rw [if_pos hz]
    have e1 : -z / 18446744073709551616 = 0 := by omega
    have e2 : -z % 18446744073709551616 = -z := by omega
    unfold divV
    rw [ez] at hq hr
    rw [decide_eq_true hz, ez]
    refine z_tas
    refine j_set 8 _ rfl (v' := .bool true) (congrArg Value.bool (by rw [decide_eq_true (by omega : z / 18446744073709551616 < 0), decide_eq_false (by omega : ¬ b < 0)]; rfl)) ?_
    simp only [e1, e2, hab]
    refine z_tas
    all_goals refine z_ro
    all_goals first
      | (rw [if_pos (by assumption)]; exact ⟨rfl, rfl⟩)
      | (rw [if_neg (by assumption), Int.add_zero]; exact ⟨rfl, rfl⟩)
  · have hz1 : z / 18446744073709551616 = 0 := by omega
    have hz2 : z % 18446744073709551616 = z := by omega
    have ez : absI z = z := by unfold absI; rw [if_neg (by omega)]
    unfold divV
    simp only [wideV]
    rw [ez] at hq hr
    rw [decide_eq_false (by omega : ¬ z < 0), ez]
    rw [hz1, hz2]
    refine z_tas
    refine j_set 57 _ rfl (v' := .bool false) (congrArg Value.bool (by rw [decide_eq_false (by omega : ¬ b < 0)]; rfl)) ?_
    refine j_set 8 _ rfl (v' := .bool false) (congrArg Value.bool (by rw [decide_eq_false (by omega : ¬ b < 0)]; rfl)) ?_
    simp only [hab]
    refine z_tas
    all_goals refine z_ro
    all_goals first
      | (rw [if_pos (by assumption)]; exact ⟨rfl, rfl⟩)
      | (rw [if_neg (by assumption), Int.add_zero]; exact ⟨rfl, rfl⟩)⟩
instance muldiv_any (a b c mode : Int) : CV Tryz.prog 24 [.int .i64 a, .int .i64 b, .int .i64 c, .int .i64 mode] (.tuple #[.int .i64 (divV (a * b) c mode), .int .i64 0]) ((InR .i64 a ∧ InR .i64 b ∧ -4611686018427387904 ≤ a * b ∧ a * b ≤ 4611686018427387904) ∧ (0 < c ∧ c ≤ 4611686018427387904) ∧ 0 ≤ mode ∧ mode ≤ 3) := ⟨fun hc w => by
  obtain ⟨⟨c1, c2, c3, c4⟩, c5, c6⟩ := hc
  refine does_of Tryz.func24 rfl Tryz.ntmps24 rfl ⟨by simp, .nil⟩ (fun n => ?_)
  simp only [slots]
  refine z_tas
  refine z_ro
  exact ⟨rfl, rfl⟩⟩
/-- Rounded down. -/
theorem divV_down {z b : Int} (hb : 0 < b) : divV z b 0 = z / b := by
  have h1 := Int.mul_ediv_add_emod (absI z) b
  have h2 := Int.emod_nonneg (absI z) (by omega : b ≠ 0)
  have h3 := Int.emod_lt_of_pos (absI z) hb
  unfold divV upB
  generalize absI z / b = q at *
  generalize absI z % b = r at *
  rcases Int.lt_or_le z 0 with hz | hz
  · have ez : absI z = -z := by unfold absI; rw [if_pos hz]
    rw [ez] at h1
    rw [decide_eq_true hz]
    rcases Int.lt_or_le 0 r with hr | hr
    · simp only [show decide (r ≠ 0) = true from decide_eq_true (by omega)]
      simp only [decide_true, Bool.and_self, Bool.true_or, Bool.and_true, if_true, cond_true]
      refine ((Int.ediv_emod_unique (r := b - r) (q := -(q + 1)) hb).2 ⟨?_, by omega, by omega⟩).1.symm
      rw [Int.mul_neg, Int.mul_add, Int.mul_one]; omega
    · obtain rfl : r = 0 := by omega
      simp only [ne_eq, not_true_eq_false, decide_false, Bool.false_and, cond_true, Bool.false_eq_true, if_false, Int.add_zero]
      refine ((Int.ediv_emod_unique (r := 0) (q := -q) hb).2 ⟨?_, by omega, by omega⟩).1.symm
      rw [Int.mul_neg]; omega
  · have ez : absI z = z := by unfold absI; rw [if_neg (by omega)]
    rw [ez] at h1
    rw [decide_eq_false (by omega : ¬ z < 0)]
    simp only [Bool.and_false, Bool.or_false, Bool.false_or, Bool.not_false, Bool.and_true, cond_false, show decide ((0 : Int) = 1) = false from rfl, show decide ((0 : Int) = 2) = false from rfl, Bool.false_and, Bool.false_eq_true, if_false, Int.add_zero]
    exact ((Int.ediv_emod_unique (r := r) (q := q) hb).2 ⟨by omega, by omega, by omega⟩).1.symm
/-- Rounded to the nearer one. -/
theorem divV_near {z b : Int} (hb : 0 < b) : divV z b 2 = (2 * z + b) / (2 * b) := by
  have h1 := Int.mul_ediv_add_emod (absI z) b
  have h2 := Int.emod_nonneg (absI z) (by omega : b ≠ 0)
  have h3 := Int.emod_lt_of_pos (absI z) hb
  unfold divV upB
  generalize absI z / b = q at *
  generalize absI z % b = r at *
  have key : ∀ x s : Int, 2 * z + b = 2 * (b * x) + s → 0 ≤ s → s < 2 * b → x = (2 * z + b) / (2 * b) := fun x s e h4 h5 =>
    ((Int.ediv_emod_unique (r := s) (q := x) (by omega : 0 < 2 * b)).2 ⟨by rw [Int.mul_assoc]; omega, h4, h5⟩).1.symm
  rcases Int.lt_or_le z 0 with hz | hz
  · have ez : absI z = -z := by unfold absI; rw [if_pos hz]
    rw [ez] at h1
    rw [decide_eq_true hz]
    simp only [cond_true, Bool.not_true, Bool.and_false, Bool.or_false, show decide ((2 : Int) = 0) = false from rfl, show decide ((2 : Int) = 1) = false from rfl, show decide ((2 : Int) = 2) = true from rfl, Bool.false_and, Bool.false_or, Bool.true_and]
    rcases Int.lt_or_le b (2 * r) with hr | hr
    · rw [decide_eq_true hr, decide_eq_true (by omega : r ≠ 0)]
      rw [show (true && (decide True && true)) = true from rfl, if_pos rfl]
      exact key _ (3 * b - 2 * r) (by rw [Int.mul_neg, Int.mul_add, Int.mul_one]; omega) (by omega) (by omega)
    · rw [decide_eq_false (by omega : ¬ b < 2 * r)]
      simp only [Bool.and_false, Bool.false_eq_true, if_false, Int.add_zero]
      exact key _ (b - 2 * r) (by rw [Int.mul_neg]; omega) (by omega) (by omega)
  · have ez : absI z = z := by unfold absI; rw [if_neg (by omega)]
    rw [ez] at h1
    rw [decide_eq_false (by omega : ¬ z < 0)]
    simp only [cond_false, Bool.not_false, Bool.and_true, show decide ((2 : Int) = 0) = false from rfl, show decide ((2 : Int) = 1) = false from rfl, show decide ((2 : Int) = 2) = true from rfl, Bool.false_and, Bool.false_or, Bool.true_and]
    rcases Int.lt_or_le (2 * r) b with hr | hr
    · rw [decide_eq_false (by omega : ¬ b < 2 * r), decide_eq_false (by omega : ¬ b = 2 * r)]
      simp only [Bool.or_self, Bool.and_false, Bool.false_eq_true, if_false, Int.add_zero]
      exact key _ (b + 2 * r) (by omega) (by omega) (by omega)
    · have e : (decide (b < 2 * r) || decide (b = 2 * r)) = true := by
        rw [Bool.or_eq_true, decide_eq_true_eq, decide_eq_true_eq]; omega
      rw [e, decide_eq_true (by omega : r ≠ 0)]
      rw [show (true && (decide True && true)) = true from rfl, if_pos rfl]
      exact key _ (2 * r - b) (by rw [Int.mul_add, Int.mul_one]; omega) (by omega) (by omega)
end Go.Proofs.YtpmomimaihjmjaaGreat
/- Package root: Floor; the reference's Floor. -/
namespace Go.Proofs.YtpmomimaihjmjaaGreat
open Go.RowKit
/-- The greatest number whose square is no more. -/
def isq : Nat → Nat
  | 0 => 0
  | x + 1 => if (isq x + 1) * (isq x + 1) ≤ x + 1 then isq x + 1 else isq x
theorem isq_spec : ∀ x, isq x * isq x ≤ x ∧ x < (isq x + 1) * (isq x + 1)
  | 0 => by simp [isq]
  | x + 1 => by
    obtain ⟨h1, h2⟩ := isq_spec x
    rw [isq]
    generalize isq x = r at *
    have e1 : (r + 1) * (r + 1) = r * r + 2 * r + 1 := by rw [Nat.add_mul, Nat.mul_add]; omega
    have e2 : (r + 1 + 1) * (r + 1 + 1) = r * r + 4 * r + 4 := by rw [Nat.add_mul, Nat.mul_add, Nat.add_mul, Nat.mul_add]; omega
    split
    · exact ⟨by assumption, by omega⟩
    · exact ⟨by omega, by omega⟩
theorem isq_of {x r : Nat} (h1 : r * r ≤ x) (h2 : x < (r + 1) * (r + 1)) : isq x = r := by
  obtain ⟨g1, g2⟩ := isq_spec x
  rcases Nat.lt_trichotomy (isq x) r with h | h | h
  · have := Nat.mul_le_mul h h
    rw [Nat.succ_eq_add_one] at this
    omega
  · exact h
  · have := Nat.mul_le_mul h h
    rw [Nat.succ_eq_add_one] at this
    omega
theorem l_str {F : Fence} {n : Nat} {P : Program} {N : Nat} {ds : List Deferred} {w0 : World} {W : Nat → Prop} {σ : List (Nat × Value)} {H : List HE} {Q : Exit → Act → World → Prop} {ops : Array Oper} {rest : List Oper} {d : Nat} {ty : TypeId} {pos : String} {aft : Array Edge} {gd : Option (Nat × Bool)} [Wide F] {x y : Operand} {t : TypeId} {s : ByteArray} {k : IntKind} {i : Nat} [hu : Und P t .string]
    (hw : wantd ops σ ⟨some d, .index t x y, ty, pos, aft, gd⟩ = some true) (hx : ev σ x = some (.string s)) (hy : ev σ y = some (.int k (i : Int))) (hs : Nat.ble 256 s.size = true) (hi : i < 256) (hT : ∀ i : Fin 256, (i : Nat) < 2 ^ (s.data.getD i 0).toNat ∧ (s.data.getD i 0).toNat ≤ 8) (hdN : Nat.blt d N = true)
    (h : ∀ t : Nat, i < 2 ^ t → t ≤ 8 → J N ds w0 W ((d, .int .u8 (t : Nat)) :: σ) H (wpListIn F n P ops Q rest)) : J N ds w0 W σ H (wpListIn F n P ops Q (⟨some d, .index t x y, ty, pos, aft, gd⟩ :: rest)) :=
  l_run hw (o_val (by simp) rfl hdN (fun a w ha _ => by
    have hc : i < s.size := Nat.lt_of_lt_of_le hi (Nat.le_of_ble_eq_true hs)
    have e : s[i]? = some (s.data.getD i 0) := by
      have h1 : s[i]? = some s[i] := by simp [getElem?_pos, hc]
      have hc' : i < s.data.size := hc
      rw [h1]
      congr 1
      show s.data[i] = _
      rw [Array.getD_eq_getD_getElem?, Array.getElem?_eq_getElem hc']
      rfl
    simp [execOp, ha.eval hx, ha.eval hy, Instr.index, run_underlying hu.h, asIntOf, e]) (h _ (hT ⟨i, hi⟩).1 (hT ⟨i, hi⟩).2))
attribute [local irreducible] OJ J HdJ Code.wpIn wpListIn Oper.wpIn bodyPost CallsIn Does
set_option maxRecDepth 4000
theorem lenR {x v b t : Nat} {n : Int} (h1 : v < 2 ^ t) (h2 : t ≤ 8) (hn : n = (b : Int) + (t : Nat)) (e : v = x / 2 ^ b) (hb : b ≤ 56) : 0 ≤ n ∧ n ≤ 64 ∧ x < 2 ^ n.toNat := by
  have en : n.toNat = b + t := by omega
  refine ⟨by omega, by omega, ?_⟩
  rw [en, Nat.pow_add, Nat.mul_comm]
  rw [e] at h1
  exact (Nat.div_lt_iff_lt_mul (Nat.two_pow_pos b)).1 h1
set_option maxHeartbeats 16000000 in
theorem len64_any (x : Nat) (w : World) (hx : x < 18446744073709551616) : Does Tryz.prog 95 [.int .u64 x] [] w (fun v S' => ∃ n : Int, v = .int .i64 n ∧ (0 ≤ n ∧ n ≤ 64 ∧ x < 2 ^ n.toNat) ∧ S' = []) := by
  refine does_of Tryz.func95 rfl Tryz.ntmps95 rfl ⟨by simp, .nil⟩ (fun n => ?_)
  simp only [slots]
  refine z_tas
  all_goals first
    | (refine j_set 21 _ rfl (v' := .int .u8 ((x / 4294967296 / 65536 / 256 : Nat) : Int)) (congrArg (Value.int .u8) (by omega)) ?_; refine z_tas; refine l_str rfl rfl rfl (by decide +kernel) (by omega) (by decide +kernel) rfl fun t h1 h2 => ?_; refine z_tas; refine j_out1 rfl rfl (.nil _) ?_; refine ⟨_, rfl, ?_, rfl⟩; exact lenR (b := 56) h1 h2 (by omega) (by omega) (by omega))
    | (refine j_set 21 _ rfl (v' := .int .u8 ((x / 4294967296 / 65536 : Nat) : Int)) (congrArg (Value.int .u8) (by omega)) ?_; refine z_tas; refine l_str rfl rfl rfl (by decide +kernel) (by omega) (by decide +kernel) rfl fun t h1 h2 => ?_; refine z_tas; refine j_out1 rfl rfl (.nil _) ?_; refine ⟨_, rfl, ?_, rfl⟩; exact lenR (b := 48) h1 h2 (by omega) (by omega) (by omega))
    | (refine j_set 21 _ rfl (v' := .int .u8 ((x / 4294967296 / 256 : Nat) : Int)) (congrArg (Value.int .u8) (by omega)) ?_; refine z_tas; refine l_str rfl rfl rfl (by decide +kernel) (by omega) (by decide +kernel) rfl fun t h1 h2 => ?_; refine z_tas; refine j_out1 rfl rfl (.nil _) ?_; refine ⟨_, rfl, ?_, rfl⟩; exact lenR (b := 40) h1 h2 (by omega) (by omega) (by omega))
    | (refine j_set 21 _ rfl (v' := .int .u8 ((x / 4294967296 : Nat) : Int)) (congrArg (Value.int .u8) (by omega)) ?_; refine z_tas; refine l_str rfl rfl rfl (by decide +kernel) (by omega) (by decide +kernel) rfl fun t h1 h2 => ?_; refine z_tas; refine j_out1 rfl rfl (.nil _) ?_; refine ⟨_, rfl, ?_, rfl⟩; exact lenR (b := 32) h1 h2 (by omega) (by omega) (by omega))
    | (refine j_set 21 _ rfl (v' := .int .u8 ((x / 65536 / 256 : Nat) : Int)) (congrArg (Value.int .u8) (by omega)) ?_; refine z_tas; refine l_str rfl rfl rfl (by decide +kernel) (by omega) (by decide +kernel) rfl fun t h1 h2 => ?_; refine z_tas; refine j_out1 rfl rfl (.nil _) ?_; refine ⟨_, rfl, ?_, rfl⟩; exact lenR (b := 24) h1 h2 (by omega) (by omega) (by omega))
    | (refine j_set 21 _ rfl (v' := .int .u8 ((x / 65536 : Nat) : Int)) (congrArg (Value.int .u8) (by omega)) ?_; refine z_tas; refine l_str rfl rfl rfl (by decide +kernel) (by omega) (by decide +kernel) rfl fun t h1 h2 => ?_; refine z_tas; refine j_out1 rfl rfl (.nil _) ?_; refine ⟨_, rfl, ?_, rfl⟩; exact lenR (b := 16) h1 h2 (by omega) (by omega) (by omega))
    | (refine j_set 21 _ rfl (v' := .int .u8 ((x / 256 : Nat) : Int)) (congrArg (Value.int .u8) (by omega)) ?_; refine z_tas; refine l_str rfl rfl rfl (by decide +kernel) (by omega) (by decide +kernel) rfl fun t h1 h2 => ?_; refine z_tas; refine j_out1 rfl rfl (.nil _) ?_; refine ⟨_, rfl, ?_, rfl⟩; exact lenR (b := 8) h1 h2 (by omega) (by omega) (by omega))
    | (refine j_set 21 _ rfl (v' := .int .u8 ((x : Nat) : Int)) (congrArg (Value.int .u8) (by omega)) ?_; refine z_tas; refine l_str rfl rfl rfl (by decide +kernel) (by omega) (by decide +kernel) rfl fun t h1 h2 => ?_; refine z_tas; refine j_out1 rfl rfl (.nil _) ?_; refine ⟨_, rfl, ?_, rfl⟩; exact lenR (b := 0) h1 h2 (by omega) (by omega) (by omega))
    | (exfalso; omega)
theorem or_pow {r q : Nat} (hq : q ≤ 62) (hr : r < 4294967296) (hm : r % 2 ^ (q + 1) = 0) : bits .or .u64 (r : Int) (IntKind.u64.wrap (1 * 2 ^ (min (q : Int).toNat IntKind.u64.bits))) = ((r + 2 ^ q : Nat) : Int) := by
  have hp : 2 ^ q < 9223372036854775808 := Nat.lt_of_lt_of_le (Nat.pow_lt_pow_right (by decide) (by omega : q < 63)) (Nat.le_refl _)
  have e1 : IntKind.u64.wrap (1 * 2 ^ (min (q : Int).toNat IntKind.u64.bits)) = ((2 ^ q : Nat) : Int) := by
    rw [Int.toNat_natCast, Nat.min_eq_left (show q ≤ IntKind.u64.bits from (by omega : q ≤ 64)), Int.one_mul, IntKind.wrap_u64]
    have e : ((2 : Int) ^ q) = ((2 ^ q : Nat) : Int) := by rw [Int.natCast_pow]; rfl
    rw [e]
    generalize 2 ^ q = p at *
    omega
  rw [e1, bits_or_u64_nat _ _ (by omega) (by omega)]
  congr 1
  have h2 := Nat.two_pow_add_eq_or_of_lt (i := q + 1) (b := 2 ^ q) (by rw [Nat.pow_succ]; have := Nat.two_pow_pos q; omega) (r / 2 ^ (q + 1))
  rw [show 2 ^ (q + 1) * (r / 2 ^ (q + 1)) = r by have := Nat.div_add_mod r (2 ^ (q + 1)); omega] at h2
  exact h2.symm
end Go.Proofs.YtpmomimaihjmjaaGreat
/- Package terrain: corners, the heights around a place. -/
namespace Go.Proofs.YtpmomimaihjmjaaGreat
open Go.RowKit
/-- Does a place lie on a map? -/
def InsP (W H : Nat) (X Y : Int) : Prop := 0 ≤ X ∧ 0 ≤ Y ∧ X ≤ ((W : Int) - 1) * 256 ∧ Y ≤ ((H : Int) - 1) * 256
instance (W H : Nat) (X Y : Int) : Decidable (InsP W H X Y) := by unfold InsP; infer_instance
/-- One of the four heights around a place. -/
def corX (X : Int) (i : Nat) : Int := X / 256 + if X % 256 = 0 then 0 else ((i : Nat) : Int)
def corH (W H : Nat) (f : List Int) (X Y : Int) (i : Nat) : Int × Int := heightF W H f (corX X (i % 2)) (corX Y (i / 2))
/-- What is wrong with the first so many of the four. -/
def codeT (W H : Nat) (f : List Int) (X Y : Int) : Nat → Int
  | 0 => 0
  | i + 1 => if codeT W H f X Y i ≠ 0 then codeT W H f X Y i else (corH W H f X Y i).2
def codeF (W H : Nat) (f : List Int) (X Y : Int) : Int := if InsP W H X Y then codeT W H f X Y 4 else 9
def zT (W H : Nat) (f : List Int) (X Y : Int) : Nat → List Int
  | 0 => [0, 0, 0, 0]
  | i + 1 => (zT W H f X Y i).set i (corH W H f X Y i).1
theorem zT_len (W H : Nat) (f : List Int) (X Y : Int) : ∀ i, (zT W H f X Y i).length = 4
  | 0 => rfl
  | i + 1 => by rw [zT, List.length_set, zT_len W H f X Y i]
def fourF (W H : Nat) (f : List Int) (X Y : Int) : List Int := if codeF W H f X Y = 0 then zT W H f X Y 4 else [0, 0, 0, 0]
theorem heightF_in {W H : Nat} {f : List Int} (hf : In16 f) (x y : Int) : -32768 ≤ (heightF W H f x y).1 ∧ (heightF W H f x y).1 ≤ 32767 := by
  unfold heightF
  split
  · exact ⟨by decide, by decide⟩
  split
  · exact ⟨by decide, by decide⟩
  · exact hf _
instance : SzI Tryz.prog 2 1 := ⟨Tryz.t2, by kernel_rfl, by kernel_rfl⟩
theorem and255 {x : Int} (h : 0 ≤ x) (h2 : x < 4611686018427387904) : bits .and .i64 x 255 = x % 256 := bits_mask .i64 62 (by decide) (fun n h0 h1 => by rw [IntKind.wrap_i64]; omega) 8 (by decide) x h (by omega)
section
variable {P : Program} {w0 : World} {W : Nat → Prop} {H : List HE}
instance (priority := 90) (x y : Operand) (t e m b q sz j r r' : Nat) (k : IntKind) (a : Int) [hu : Und P t (.array m e)] [hI : SzI P e sz] [ha : LitI a j] [hm : NMul j sz r] [hr : NAdd q r r'] : LV P w0 W H (.indexAddr t x y) [.pointer (some ⟨b, q, none⟩), .int k a] (.pointer (some ⟨b, r', none⟩)) (j < m) := ⟨fun hc => by
  have := LV.h (P := P) (w0 := w0) (W := W) (H := H) (op := .indexAddr t x y) (vs := [.pointer (some ⟨b, q, none⟩), .int k (j : Int)]) (v := .pointer (some ⟨b, r', none⟩)) hc
  rw [← ha.h] at this
  exact this⟩
instance (priority := 90) (x y : Operand) (t e m b q sz j r r' : Nat) (k : IntKind) (a : Int) [hu : Und P t (.array m e)] [hI : SzI P e sz] [ha : LitI a j] [hm : NMul j sz r] [hr : NAdd q r r'] : MS P w0 W H (.indexAddr t x y) [.pointer (some ⟨b, q, none⟩), .int k a] (.pointer (some ⟨b, r', none⟩)) (j < m) := by
  have h0 : MS P w0 W H (.indexAddr t x y) [.pointer (some ⟨b, q, none⟩), .int k (j : Int)] (.pointer (some ⟨b, r', none⟩)) (j < m) := inferInstance
  rw [← ha.h] at h0
  exact h0
end
/-- An array of which no part is told. -/
theorem lb0 {F : Fence} {n : Nat} {P : Program} {N : Nat} {ds : List Deferred} {w0 : World} {W : Nat → Prop} {σ : List (Nat × Value)} {H : List HE} {Q : Exit → Act → World → Prop} {ops : Array Oper} {rest : List Oper} {d : Nat} {ty : TypeId} {pos : String} {aft : Array Edge} {gd : Option (Nat × Bool)} [Wide F] {t e m sz bs szt bst : Nat} {z ze : Value} {zs : List Value} [hu : Und P t (.array m e)] [hI : Inf P t szt bst z] [he : Inf P e sz bs ze] [hz : ZC z zs] (hw : wantd ops σ ⟨some d, .build t #[], ty, pos, aft, gd⟩ = some true) (hdN : Nat.blt d N = true)
    (h : J N ds w0 W ((d, .agg zs.toArray) :: σ) H (wpListIn F n P ops Q rest)) : J N ds w0 W σ H (wpListIn F n P ops Q (⟨some d, .build t #[], ty, pos, aft, gd⟩ :: rest)) := by
  refine l_run hw (o_val (by simp) rfl hdN (fun a w ha _ => ?_) h)
  obtain ⟨i, h3, h4, -⟩ := hI.h
  obtain ⟨j, h5, -, h6, -⟩ := he.h
  have hb : (Instr.build t ((#[] : Array (Nat × Operand)).map fun (i, x) => (i, a.eval x))).run P w = .ok (.agg zs.toArray) w := by
    unfold Instr.build
    have hz' : (zeroValue t).run P w = .ok z w := by simp [zeroValue, typeInfo, h3, h4]
    have hs : (sizeOf e).run P w = .ok sz w := by simp [sizeOf, typeInfo, h5, h6]
    have hc : z.cells = zs.toArray := by rw [← hz.h]
    simp only [Sem.run_bind, hz', Result.andThen_ok, run_underlying hu.h, hs, Array.map_empty, Instr.fill, Sem.run_pure, hc]
  simp only [execOp, Sem.run_bind, hb, Result.andThen_ok, Sem.run_pure]
attribute [local irreducible] OJ J HdJ Code.wpIn wpListIn Oper.wpIn bodyPost CallsIn Does
set_option maxRecDepth 4000
set_option maxHeartbeats 16000000 in
theorem inside_any (W H : Nat) (A : Option Addr) (m c : Nat) (cell ox oy X Y : Int) (w : World) (hm : 1 ≤ W ∧ W ≤ 1000000 ∧ 1 ≤ H ∧ H ≤ 1000000) :
    Does Tryz.prog 47 [.agg #[.int .i64 W, .int .i64 H, .slice A m c, .int .i64 cell, .int .i32 ox, .int .i32 oy], .agg #[.int .i64 X, .int .i64 Y]] [] w (fun v S' => v = .bool (decide (InsP W H X Y)) ∧ S' = []) := by
  refine does_of Tryz.func47 rfl Tryz.ntmps47 rfl ⟨by simp, .nil⟩ (fun n => ?_)
  simp only [slots]
  refine z_tas
  all_goals exact j_out1 rfl rfl (.nil _) ⟨congrArg Value.bool (by rw [Bool.eq_iff_iff]; simp only [decide_eq_true_eq, Bool.and_eq_true, Bool.false_eq_true, false_iff]; unfold InsP; omega), rfl⟩
set_option maxHeartbeats 16000000 in
theorem corner_any (X Y : Int) (w : World) (h : (0 ≤ X ∧ X < 4611686018427387904) ∧ (0 ≤ Y ∧ Y < 4611686018427387904)) :
    Does Tryz.prog 23 [.agg #[.int .i64 X, .int .i64 Y]] [] w (fun v S' => v = .tuple #[.int .i64 (X / 256), .int .i64 (Y / 256), .int .i64 (X % 256), .int .i64 (Y % 256)] ∧ S' = []) := by
  refine does_of Tryz.func23 rfl Tryz.ntmps23 rfl ⟨by simp, .nil⟩ (fun n => ?_)
  simp only [slots]
  rw [← and255 h.1.1 h.1.2, ← and255 h.2.1 h.2.2]
  refine z_gob
  all_goals (refine z_ro; exact ⟨rfl, rfl⟩)
theorem four_of {l : List Int} (h : l.length = 4) : ∃ a b c d, l = [a, b, c, d] := by
  match l, h with
  | [a, b, c, d], _ => exact ⟨a, b, c, d, rfl⟩
theorem ints_set (k : IntKind) (xs : List Int) (q : Nat) (v : Int) : (ints k xs).set q (.int k v) = ints k (xs.set q v) := by unfold ints; rw [List.map_set]
theorem and1 : ∀ i : Nat, i < 4 → bits .and .i64 (i : Int) 1 = ((i % 2 : Nat) : Int)
  | 0, _ => by decide
  | 1, _ => by decide
  | 2, _ => by decide
  | 3, _ => by decide
  | n + 4, h => by omega
theorem codeT_stop {W H : Nat} {f : List Int} {X Y : Int} {i : Nat} (h : codeT W H f X Y i ≠ 0) : ∀ k, codeT W H f X Y (i + k) = codeT W H f X Y i
  | 0 => rfl
  | k + 1 => by rw [← Nat.add_assoc, codeT, codeT_stop h k, if_pos h]
set_option maxHeartbeats 64000000 in
theorem four_c (K : CaT) (s : CaV) (f : List Int) (X Y b : Int) (w : World) (hown : Own (K.H s) w) (hF : CaF K.ys f K.room) (h : CaOk K.ys f K.room s b) (hb : b ≤ 900000000000000000) :
    Does Tryz.prog 22 [.pointer (some ⟨K.g, 0, none⟩), .agg #[.int .i64 X, .int .i64 Y]] (K.H s) w (fun v S' => ∃ s', v = .tuple #[.agg (ints .i64 (fourF (wY K.ys) (hY K.ys) f X Y)).toArray, .int .i64 (codeF (wY K.ys) (hY K.ys) f X Y)] ∧ CaOk K.ys f K.room s' (b + 4) ∧ S' = K.H s') := by
  have hrg := hF.op.rng
  unfold rangeY at hrg
  refine does_of Tryz.func22 rfl Tryz.ntmps22 rfl hown (fun n => ?_)
  simp only [slots]
  refine z_tas
  rename_i b3 b4 b6
  refine c_dv (0 :: 1 :: 2 :: 3 :: 4 :: []) ?_; intro _
  refine z_govG
  refine lk rfl rfl rfl (S := K.H s) (fun w hw ho => chart_c K s w ho) ?_
  refine z_govG
  refine lfv rfl rfl rfl (fun w _ => inside_any (wY K.ys) (hY K.ys) none 0 0 _ _ _ X Y w (by omega)) ?_
  by_cases hI : InsP (wY K.ys) (hY K.ys) X Y
  · rw [decide_eq_true hI]
    have hI2 := hI
    unfold InsP at hI2
    refine z_govG
    refine lfv rfl rfl rfl (fun w _ => corner_any X Y w (by omega)) ?_
    refine z_tas
    refine c_loop (X := Nat × CaV) (fun q => q.1 ≤ 4 ∧ codeT (wY K.ys) (hY K.ys) f X Y q.1 = 0 ∧ CaOk K.ys f K.room q.2 (b + q.1)) (fun q => [(0, .pointer (some ⟨K.g, 0, none⟩)), (4, .pointer (some ⟨b4, 0, none⟩)), (6, .pointer (some ⟨b6, 0, none⟩)), (7, .int .i64 (X / 256)), (8, .int .i64 (Y / 256)), (9, .int .i64 (X % 256)), (10, .int .i64 (Y % 256)), (29, .int .i64 q.1)])
      (fun q => K.HC q.2 [.blk b6 75 (ints .i64 (zT (wY K.ys) (hY K.ys) f X Y q.1)), .blk b4 75 [.int .i64 0, .int .i64 0, .int .i64 0, .int .i64 0], .blk b3 24 [.int .i64 X, .int .i64 Y]]) (fun q => 4 - q.1) (0, s) ⟨by omega, rfl, by simpa using h⟩ ⟨rfl, rfl, rfl, rfl, rfl, rfl, rfl, rfl, trivial⟩ (by show Sub (K.HC s (.blk b6 _ [.int .i64 0, .int .i64 0, .int .i64 0, .int .i64 0] :: _)) _; exact Sub.au) ?_
    rintro ⟨i, s1⟩ ⟨hi, hc0, hs⟩
    dsimp only at hi hc0 hs ⊢
    have hzl := zT_len (wY K.ys) (hY K.ys) f X Y i
    rcases Nat.lt_or_ge i 4 with h4 | h4
    · have ha := and1 i h4
      have hd : (i : Int) / 2 ^ 1 = ((i / 2 : Nat) : Int) := by omega
      have hci := heightF_in (W := wY K.ys) (H := hY K.ys) hF.good.1
      have ec : codeT (wY K.ys) (hY K.ys) f X Y (i + 1) = (corH (wY K.ys) (hY K.ys) f X Y i).2 := by rw [codeT, if_neg (by rw [hc0]; simp)]
      have ez : zT (wY K.ys) (hY K.ys) f X Y (i + 1) = (zT (wY K.ys) (hY K.ys) f X Y i).set i (corH (wY K.ys) (hY K.ys) f X Y i).1 := rfl
      have o1 : SetAt (ints .i64 (zT (wY K.ys) (hY K.ys) f X Y i)) i (.int .i64 (heightF (wY K.ys) (hY K.ys) f (corX X (i % 2)) (corX Y (i / 2))).1) (ints .i64 (zT (wY K.ys) (hY K.ys) f X Y (i + 1))) := ⟨by rw [ints_set, ez]; rfl, by rw [ints_len, hzl]; exact h4⟩
      have hc1 := hci (corX X (i % 2)) (corX Y (i / 2))
      refine z_tas
      all_goals
        refine j_set 44 _ rfl (v' := .int .i64 (corX X (i % 2))) (congrArg (Value.int .i64) (by unfold corX; first | rw [if_pos (by assumption)] | rw [if_neg (by assumption), ha])) ?_
        refine j_set 47 _ rfl (v' := .int .i64 (corX Y (i / 2))) (congrArg (Value.int .i64) (by unfold corX; first | rw [if_pos (by assumption)] | rw [if_neg (by assumption), hd])) ?_
        refine lf rfl rfl rfl (S := K.H s1) (fun w hw ho => height_c K s1 f (corX X (i % 2)) (corX Y (i / 2)) (b + i) w ho hF hs (by omega)) ?_
        rintro v S' ⟨s', rfl, g1, rfl⟩
        have k1 := g1.ok hF hs
        refine z_gox
        refine c_if rfl ?_ ?_ <;> intro h9
        · have e4 : codeT (wY K.ys) (hY K.ys) f X Y (i + 1 + (3 - i)) = _ := codeT_stop (by rw [ec]; exact h9) _
          rw [show i + 1 + (3 - i) = 4 by omega, ec] at e4
          have e5 : codeF (wY K.ys) (hY K.ys) f X Y = (heightF (wY K.ys) (hY K.ys) f (corX X (i % 2)) (corX Y (i / 2))).2 := by unfold codeF; rw [if_pos hI, e4]; rfl
          rw [show fourF (wY K.ys) (hY K.ys) f X Y = [0, 0, 0, 0] by unfold fourF; rw [e5, if_neg h9], e5]
          refine z_gox
          refine lb0 rfl rfl ?_
          refine z_gox
          refine j_outK (S' := K.H s') Sub.au ?_
          refine z_rk
          exact ⟨s', rfl, k1.mono (by omega), rfl⟩
        · refine z_tas
          exact c_round (i + 1, s') ⟨h4, by rw [ec]; exact Classical.not_not.1 h9, k1.mono (by omega)⟩ (by show 4 - (i + 1) < 4 - i; omega) ⟨rfl, rfl, rfl, rfl, rfl, rfl, rfl, by simp [look], trivial⟩ Sub.au
    · obtain rfl : i = 4 := by omega
      have e5 : codeF (wY K.ys) (hY K.ys) f X Y = 0 := by unfold codeF; rw [if_pos hI, hc0]
      rw [show fourF (wY K.ys) (hY K.ys) f X Y = zT (wY K.ys) (hY K.ys) f X Y 4 by unfold fourF; rw [if_pos e5], e5]
      generalize zT (wY K.ys) (hY K.ys) f X Y 4 = L at *
      obtain ⟨z0, z1, z2, z3, rfl⟩ := four_of hzl
      simp only [ints, List.map_cons, List.map_nil]
      refine z_tas
      refine j_outK (S' := K.H s1) Sub.au ?_
      refine z_rk
      exact ⟨s1, rfl, hs, rfl⟩
  · rw [decide_eq_false hI]
    have ec : codeF (wY K.ys) (hY K.ys) f X Y = 9 := if_neg hI
    have ef : fourF (wY K.ys) (hY K.ys) f X Y = [0, 0, 0, 0] := by unfold fourF; rw [ec]; rfl
    rw [ec, ef]
    refine z_govG
    refine j_outK (S' := K.H s) Sub.au ?_
    refine z_rk
    exact ⟨s, rfl, h.mono (by omega), rfl⟩
end Go.Proofs.YtpmomimaihjmjaaGreat
/- Package terrain: Height, Slope. -/
namespace Go.Proofs.YtpmomimaihjmjaaGreat
open Go.RowKit
/-- The ground at a place, times 65536. -/
def exF (a b c d fx fy : Int) : Int := (a * (256 - fx) + b * fx) * (256 - fy) + (c * (256 - fx) + d * fx) * fy
def exL : List Int → Int → Int → Int
  | [a, b, c, d], fx, fy => exF a b c d fx fy
  | _, _, _ => 0
def heightT (W H : Nat) (f : List Int) (X Y : Int) : Int := if codeF W H f X Y = 0 then (2 * (exL (fourF W H f X Y) (X % 256) (Y % 256) * 16) + 65536) / (2 * 65536) else 0
def slX : List Int → Int → Int
  | [a, b, c, d], fy => (b - a) * (256 - fy) + (d - c) * fy
  | _, _ => 0
def slY : List Int → Int → Int
  | [a, b, c, d], fx => (c - a) * (256 - fx) + (d - b) * fx
  | _, _ => 0
def slopeT (W H : Nat) (f : List Int) (X Y : Int) : Int × Int := if codeF W H f X Y = 0 then ((2 * (slX (fourF W H f X Y) (Y % 256) * 16) + 256) / (2 * 256), (2 * (slY (fourF W H f X Y) (X % 256) * 16) + 256) / (2 * 256)) else (0, 0)
theorem zT_in {W H : Nat} {f : List Int} (hf : In16 f) (X Y : Int) : ∀ i, ∀ z ∈ zT W H f X Y i, -32768 ≤ z ∧ z ≤ 32767
  | 0, z, hz => by simp [zT] at hz; omega
  | i + 1, z, hz => by
    rw [zT] at hz
    rcases List.mem_or_eq_of_mem_set hz with h | h
    · exact zT_in hf X Y i z h
    · rw [h]; exact heightF_in hf _ _
theorem fourF_in {W H : Nat} {f : List Int} (hf : In16 f) (X Y : Int) : ∃ a b c d, fourF W H f X Y = [a, b, c, d] ∧ (-32768 ≤ a ∧ a ≤ 32767) ∧ (-32768 ≤ b ∧ b ≤ 32767) ∧ (-32768 ≤ c ∧ c ≤ 32767) ∧ (-32768 ≤ d ∧ d ≤ 32767) := by
  unfold fourF
  split
  · obtain ⟨a, b, c, d, e⟩ := four_of (zT_len W H f X Y 4)
    have h := zT_in hf (W := W) (H := H) X Y 4
    rw [e] at h ⊢
    exact ⟨a, b, c, d, rfl, h a (by simp), h b (by simp), h c (by simp), h d (by simp)⟩
  · exact ⟨0, 0, 0, 0, rfl, by omega, by omega, by omega, by omega⟩
theorem exF_in {a b c d fx fy : Int} (h : (-32768 ≤ a ∧ a ≤ 32767) ∧ (-32768 ≤ b ∧ b ≤ 32767) ∧ (-32768 ≤ c ∧ c ≤ 32767) ∧ (-32768 ≤ d ∧ d ≤ 32767)) (hx : 0 ≤ fx ∧ fx < 256) (hy : 0 ≤ fy ∧ fy < 256) :
    (-8388608 ≤ a * (256 - fx) ∧ a * (256 - fx) ≤ 8388608) ∧ (-8388608 ≤ b * fx ∧ b * fx ≤ 8388608) ∧ (-8388608 ≤ c * (256 - fx) ∧ c * (256 - fx) ≤ 8388608) ∧ (-8388608 ≤ d * fx ∧ d * fx ≤ 8388608) ∧
    (-4294967296 ≤ (a * (256 - fx) + b * fx) * (256 - fy) ∧ (a * (256 - fx) + b * fx) * (256 - fy) ≤ 4294967296) ∧ (-4294967296 ≤ (c * (256 - fx) + d * fx) * fy ∧ (c * (256 - fx) + d * fx) * fy ≤ 4294967296) := by
  have m1 := mulB 32768 256 (a := a) (b := 256 - fx) (by omega) (by omega)
  have m2 := mulB 32768 256 (a := b) (b := fx) (by omega) (by omega)
  have m3 := mulB 32768 256 (a := c) (b := 256 - fx) (by omega) (by omega)
  have m4 := mulB 32768 256 (a := d) (b := fx) (by omega) (by omega)
  have m5 := mulB 16777216 256 (a := a * (256 - fx) + b * fx) (b := 256 - fy) (by omega) (by omega)
  have m6 := mulB 16777216 256 (a := c * (256 - fx) + d * fx) (b := fy) (by omega) (by omega)
  omega
attribute [local irreducible] OJ J HdJ Code.wpIn wpListIn Oper.wpIn bodyPost CallsIn Does
set_option maxRecDepth 4000
set_option maxHeartbeats 16000000 in
theorem exact_any (a b c d fx fy : Int) (w : World) (h : (-32768 ≤ a ∧ a ≤ 32767) ∧ (-32768 ≤ b ∧ b ≤ 32767) ∧ (-32768 ≤ c ∧ c ≤ 32767) ∧ (-32768 ≤ d ∧ d ≤ 32767)) (hx : 0 ≤ fx ∧ fx < 256) (hy : 0 ≤ fy ∧ fy < 256) :
    Does Tryz.prog 25 [.agg #[.int .i64 a, .int .i64 b, .int .i64 c, .int .i64 d], .int .i64 fx, .int .i64 fy] [] w (fun v S' => v = .int .i64 (exF a b c d fx fy) ∧ S' = []) := by
  obtain ⟨m1, m2, m3, m4, m5, m6⟩ := exF_in h hx hy
  refine does_of Tryz.func25 rfl Tryz.ntmps25 rfl ⟨by simp, .nil⟩ (fun n => ?_)
  simp only [slots]
  refine z_tas
  exact j_out1 rfl rfl (.nil _) ⟨rfl, rfl⟩
set_option maxHeartbeats 64000000 in
theorem height_t (K : CaT) (s : CaV) (f : List Int) (X Y b : Int) (w : World) (hown : Own (K.H s) w) (hF : CaF K.ys f K.room) (h : CaOk K.ys f K.room s b) (hb : b ≤ 900000000000000000) :
    Does Tryz.prog 10 [.pointer (some ⟨K.g, 0, none⟩), .agg #[.int .i64 X, .int .i64 Y]] (K.H s) w (fun v S' => ∃ s', v = .tuple #[.int .i64 (heightT (wY K.ys) (hY K.ys) f X Y), .int .i64 (codeF (wY K.ys) (hY K.ys) f X Y)] ∧ CaOk K.ys f K.room s' (b + 4) ∧ S' = K.H s') := by
  have hrg := hF.op.rng
  unfold rangeY at hrg
  refine does_of Tryz.func10 rfl Tryz.ntmps10 rfl hown (fun n => ?_)
  simp only [slots]
  refine z_tas
  refine lf rfl rfl rfl (S := K.H s) (fun w hw ho => four_c K s f X Y b w ho hF h hb) ?_
  rintro v S' ⟨s', rfl, k1, rfl⟩
  obtain ⟨z0, z1, z2, z3, e4, hz⟩ := fourF_in (W := wY K.ys) (H := hY K.ys) hF.good.1 X Y
  unfold heightT
  rw [e4]
  simp only [ints, List.map_cons, List.map_nil, exL]
  by_cases hc : codeF (wY K.ys) (hY K.ys) f X Y = 0
  · have hI : InsP (wY K.ys) (hY K.ys) X Y := by
      unfold codeF at hc
      split at hc
      · assumption
      · exact absurd hc (by decide)
    unfold InsP at hI
    rw [if_pos hc, hc]
    have hex := exF_in (fx := X % 256) (fy := Y % 256) hz (by omega) (by omega)
    have he : -8589934592 ≤ exF z0 z1 z2 z3 (X % 256) (Y % 256) ∧ exF z0 z1 z2 z3 (X % 256) (Y % 256) ≤ 8589934592 := by unfold exF; omega
    refine z_tas
    refine lfv rfl rfl rfl (fun w _ => corner_any X Y w (by omega)) ?_
    refine z_tas
    refine lfv rfl rfl rfl (fun w _ => exact_any z0 z1 z2 z3 (X % 256) (Y % 256) w hz (by omega) (by omega)) ?_
    refine z_tas
    refine j_out2 rfl rfl rfl Sub.au ⟨s', ?_, k1, rfl⟩
    rw [divV_near (by decide)]
  · rw [if_neg hc]
    refine z_tas
    all_goals exact j_out2 rfl rfl rfl Sub.au ⟨s', rfl, k1, rfl⟩
theorem sl_in {a b c d fy : Int} (h : (-32768 ≤ a ∧ a ≤ 32767) ∧ (-32768 ≤ b ∧ b ≤ 32767) ∧ (-32768 ≤ c ∧ c ≤ 32767) ∧ (-32768 ≤ d ∧ d ≤ 32767)) (hy : 0 ≤ fy ∧ fy < 256) : (-16777216 ≤ (b - a) * (256 - fy) ∧ (b - a) * (256 - fy) ≤ 16777216) ∧ (-16777216 ≤ (d - c) * fy ∧ (d - c) * fy ≤ 16777216) := by
  have m1 := mulB 65536 256 (a := b - a) (b := 256 - fy) (by omega) (by omega)
  have m2 := mulB 65536 256 (a := d - c) (b := fy) (by omega) (by omega)
  omega
end Go.Proofs.YtpmomimaihjmjaaGreat
/- Package terrain: Spot, Metres, within. -/
namespace Go.Proofs.YtpmomimaihjmjaaGreat
open Go.RowKit
def Far40 (x : Int) : Prop := x < -1099511627776 ∨ 1099511627776 < x
instance (x : Int) : Decidable (Far40 x) := by unfold Far40; infer_instance
attribute [local irreducible] OJ J HdJ Code.wpIn wpListIn Oper.wpIn bodyPost CallsIn Does
set_option maxRecDepth 4000
end Go.Proofs.YtpmomimaihjmjaaGreat
/- Package terrain: Rough. -/
namespace Go.Proofs.YtpmomimaihjmjaaGreat
open Go.RowKit
def sumZ : List Int → Int
  | [] => 0
  | x :: r => x + sumZ r
def sqZ : List Int → Int
  | [] => 0
  | x :: r => x * x + sqZ r
theorem sumZ_app : ∀ a b : List Int, sumZ (a ++ b) = sumZ a + sumZ b
  | [], b => by simp [sumZ]
  | x :: r, b => by rw [List.cons_append, sumZ, sumZ, sumZ_app r b]; omega
theorem sqZ_app : ∀ a b : List Int, sqZ (a ++ b) = sqZ a + sqZ b
  | [], b => by simp [sqZ]
  | x :: r, b => by rw [List.cons_append, sqZ, sqZ, sqZ_app r b]; omega
theorem sum_in : ∀ l : List Int, (∀ z ∈ l, -32768 ≤ z ∧ z ≤ 32767) → (-(32768 * (l.length : Int)) ≤ sumZ l ∧ sumZ l ≤ 32768 * (l.length : Int)) ∧ 0 ≤ sqZ l ∧ sqZ l ≤ 1073741824 * (l.length : Int)
  | [], _ => by simp [sumZ, sqZ]
  | x :: r, h => by
    have h1 := sum_in r fun z hz => h z (List.mem_cons_of_mem _ hz)
    have h2 := h x (List.mem_cons_self ..)
    have h3 := mulB 32768 32768 (a := x) (b := x) (by omega) (by omega)
    have h4 : 0 ≤ x * x := by
      rcases Int.lt_or_le x 0 with h | h
      · exact Int.le_of_lt (Int.mul_pos_of_neg_of_neg h h)
      · exact Int.mul_nonneg h h
    simp only [sumZ, sqZ, List.length_cons]
    push_cast
    omega
def wiF (x d : Int) : Int := if x < -1000 ∨ 1000 < x then -1 else x + d
def hAt (W H : Nat) (f : List Int) (x y dx dy : Int) : List Int := if (heightF W H f (wiF x dx) (wiF y dy)).2 = 0 then [(heightF W H f (wiF x dx) (wiF y dy)).1] else []
/-- The heights of a row of a square; of all its rows. -/
def rowH (W H : Nat) (f : List Int) (x y : Int) (far : Nat) (dy : Int) : Nat → List Int
  | 0 => []
  | j + 1 => rowH W H f x y far dy j ++ hAt W H f x y ((j : Int) - far) dy
def allH (W H : Nat) (f : List Int) (x y : Int) (far : Nat) : Nat → List Int
  | 0 => []
  | i + 1 => allH W H f x y far i ++ rowH W H f x y far ((i : Int) - far) (2 * far + 1)
theorem hAt_in {W H : Nat} {f : List Int} (hf : In16 f) (x y dx dy : Int) : (hAt W H f x y dx dy).length ≤ 1 ∧ ∀ z ∈ hAt W H f x y dx dy, -32768 ≤ z ∧ z ≤ 32767 := by
  unfold hAt
  split
  · exact ⟨Nat.le_refl _, fun z hz => by rw [List.mem_singleton.1 hz]; exact heightF_in hf _ _⟩
  · exact ⟨Nat.zero_le _, fun z hz => by cases hz⟩
theorem rowH_in {W H : Nat} {f : List Int} (hf : In16 f) (x y : Int) (far : Nat) (dy : Int) : ∀ j, (rowH W H f x y far dy j).length ≤ j ∧ ∀ z ∈ rowH W H f x y far dy j, -32768 ≤ z ∧ z ≤ 32767
  | 0 => ⟨Nat.le_refl _, fun z hz => by cases hz⟩
  | j + 1 => by
    obtain ⟨h1, h2⟩ := rowH_in hf (W := W) (H := H) x y far dy j
    obtain ⟨h3, h4⟩ := hAt_in hf (W := W) (H := H) x y ((j : Int) - far) dy
    rw [rowH]
    refine ⟨by rw [List.length_append]; omega, fun z hz => ?_⟩
    rcases List.mem_append.1 hz with h | h
    · exact h2 z h
    · exact h4 z h
theorem allH_in {W H : Nat} {f : List Int} (hf : In16 f) (x y : Int) {far : Nat} (hfar : far ≤ 8) : ∀ i, (allH W H f x y far i).length ≤ 17 * i ∧ ∀ z ∈ allH W H f x y far i, -32768 ≤ z ∧ z ≤ 32767
  | 0 => ⟨Nat.le_refl _, fun z hz => by cases hz⟩
  | i + 1 => by
    obtain ⟨h1, h2⟩ := allH_in hf (W := W) (H := H) x y hfar i
    obtain ⟨h3, h4⟩ := rowH_in hf (W := W) (H := H) x y far ((i : Int) - far) (2 * far + 1)
    rw [allH]
    refine ⟨by rw [List.length_append]; omega, fun z hz => ?_⟩
    rcases List.mem_append.1 hz with h | h
    · exact h2 z h
    · exact h4 z h
theorem lfc {F : Fence} {n : Nat} {P : Program} {N : Nat} {ds : List Deferred} {w0 : World} {W : Nat → Prop} {σ : List (Nat × Value)} {H R S : List HE} {Q : Exit → Act → World → Prop} {ops : Array Oper} {rest : List Oper} {d : Nat} {ty : TypeId} {pos : String} {aft : Array Edge} {gd : Option (Nat × Bool)} {us : List Value} {Rl : Value → List HE → Prop} [Wide F] [WF F] {x : Operand} {f : FuncId} {captured : Array Value} {args : Array Operand} {ts : Array TypeId} [Cl P f]
    (hw : wantd ops σ ⟨some d, .call ⟨.value x, args, ts⟩, ty, pos, aft, gd⟩ = some true) (hx : ev σ x = some (.func (.func f) #[] captured)) (hv : vals σ args.toList = some us) (hdN : Nat.blt d N = true)
    (hc : ∀ w, St w0 W H w → Own S w → Does P f (us ++ captured.toList) S w Rl) [hs : SplitC H S R] (h : ∀ v S', Rl v S' → J N ds w0 W ((d, v) :: σ) (S' ++ R) (wpListIn F n P ops Q rest)) :
    J N ds w0 W σ H (wpListIn F n P ops Q (⟨some d, .call ⟨.value x, args, ts⟩, ty, pos, aft, gd⟩ :: rest)) :=
  l_run hw (o_call hx hv hs.h hc fun v S' hr a w ha hw => h v S' hr _ _ (ha.put d v (by simpa using hdN)) hw)
/-- The three sums. -/
@[reducible] def sumsE (bs bq bn : Nat) (L : List Int) : List HE := [.blk bs 2 [.int .i64 (sumZ L)], .blk bq 2 [.int .i64 (sqZ L)], .blk bn 2 [.int .i64 (L.length : Nat)]]
/-- What the walk over a square captures. -/
@[reducible] def rgE (K : CaT) (bf bc bx by' far : Nat) (x y : Int) (T : List HE) : List HE := .blk bf 3 [.int .i64 far] :: .blk bc 37 [.pointer (some ⟨K.g, 0, none⟩)] :: .blk bx 3 [.int .i64 x] :: .blk by' 3 [.int .i64 y] :: T
set_option maxRecDepth 4000
end Go.Proofs.YtpmomimaihjmjaaGreat
/- Package terrain: Rough. -/
namespace Go.Proofs.YtpmomimaihjmjaaGreat
open Go.RowKit
def roughE (L : List Int) : Int := (sqZ L * (L.length : Nat) - sumZ L * sumZ L) * 16 * 16
def roughX (L : List Int) : Nat := (IntKind.u64.wrap (IntKind.i64.wrap ((roughE L).tdiv ((L.length : Nat) * (L.length : Nat))))).toNat
def roughR (L : List Int) : Int × Int := if L.length = 0 then (0, 0) else (((isq (roughX L) : Nat) : Int), ((L.length : Nat) : Int))
theorem roughX_eq (L : List Int) : IntKind.u64.wrap (IntKind.i64.wrap ((roughE L).tdiv ((L.length : Nat) * (L.length : Nat)))) = ((roughX L : Nat) : Int) ∧ roughX L < 18446744073709551616 := by
  unfold roughX
  generalize IntKind.i64.wrap ((roughE L).tdiv ((L.length : Nat) * (L.length : Nat))) = t
  rw [IntKind.wrap_u64]
  omega
theorem isq_lt {x : Nat} (h : x < 18446744073709551616) : isq x < 4294967296 := by
  rcases Nat.lt_or_ge (isq x) 4294967296 with h1 | h1
  · exact h1
  · have := Nat.mul_le_mul h1 h1
    have := (isq_spec x).1
    omega
/-- The heights of a square around a cell. -/
def sqH (W H : Nat) (f : List Int) (x y far : Int) : List Int := allH W H f x y (min (max far 0) 8).toNat (2 * (min (max far 0) 8).toNat + 1)
theorem rough_in {L : List Int} (h : ∀ z ∈ L, -32768 ≤ z ∧ z ≤ 32767) (hl : L.length ≤ 289) : (0 ≤ sqZ L * (L.length : Nat) ∧ sqZ L * (L.length : Nat) ≤ 90000000000000) ∧ (0 ≤ sumZ L * sumZ L ∧ sumZ L * sumZ L ≤ 90000000000000) ∧ (0 ≤ ((L.length : Nat) : Int) * (L.length : Nat) ∧ ((L.length : Nat) : Int) * (L.length : Nat) ≤ 83521) := by
  obtain ⟨⟨h1, h2⟩, h3, h4⟩ := sum_in L h
  have m1 := mulB 310311387136 289 (a := sqZ L) (b := (L.length : Nat)) (by omega) (by omega)
  have m2 := mulB 9469952 9469952 (a := sumZ L) (b := sumZ L) (by omega) (by omega)
  have m3 := mulB 289 289 (a := (L.length : Nat)) (b := (L.length : Nat)) (by omega) (by omega)
  have p1 : 0 ≤ sqZ L * (L.length : Nat) := Int.mul_nonneg h3 (by omega)
  have p2 : 0 ≤ sumZ L * sumZ L := by
    rcases Int.lt_or_le (sumZ L) 0 with h | h
    · exact Int.le_of_lt (Int.mul_pos_of_neg_of_neg h h)
    · exact Int.mul_nonneg h h
  have p3 : 0 ≤ ((L.length : Nat) : Int) * (L.length : Nat) := Int.mul_nonneg (by omega) (by omega)
  omega
attribute [local irreducible] OJ J HdJ Code.wpIn wpListIn Oper.wpIn bodyPost CallsIn Does
set_option maxRecDepth 4000
end Go.Proofs.YtpmomimaihjmjaaGreat
/- The reference of layer 11: places, heights. -/
namespace Go.Proofs.YtpmomimaihjmjaaGreat
open Go.RowKit
def corR (W H : Nat) (f : List Int) (X Y : Int) (i k : Nat) : Int × Int := if InsP W H X Y then heightF W H f (corX X i) (corX Y k) else (0, 9)
theorem tdiv_down {a b : Int} (hb : 0 < b) : (if a.tmod b < 0 then a.tdiv b - 1 else a.tdiv b) = a / b := by
  rcases Int.lt_or_le a 0 with h | h
  · obtain ⟨c, rfl⟩ : ∃ c, a = -c := ⟨-a, by omega⟩
    rw [Int.neg_tdiv, Int.neg_tmod, Int.tdiv_eq_ediv_of_nonneg (by omega), Int.tmod_eq_emod_of_nonneg (by omega)]
    have h1 := Int.mul_ediv_add_emod c b
    have h2 := Int.emod_nonneg c (by omega : b ≠ 0)
    have h3 := Int.emod_lt_of_pos c hb
    generalize c / b = q at *
    generalize c % b = r at *
    split
    · refine ((Int.ediv_emod_unique (r := b - r) (q := -q - 1) hb).2 ⟨?_, by omega, by omega⟩).1.symm
      rw [Int.mul_sub, Int.mul_neg]; omega
    · refine ((Int.ediv_emod_unique (r := 0) (q := -q) hb).2 ⟨?_, by omega, by omega⟩).1.symm
      rw [Int.mul_neg]; omega
  · rw [Int.tdiv_eq_ediv_of_nonneg h, Int.tmod_eq_emod_of_nonneg h, if_neg (by have := Int.emod_nonneg a (by omega : b ≠ 0); omega)]
attribute [local irreducible] OJ J HdJ Code.wpIn wpListIn Oper.wpIn bodyPost CallsIn Does
set_option maxRecDepth 4000
theorem corR_in {W H : Nat} {f : List Int} {X Y : Int} (hI : InsP W H X Y) (i : Nat) : corR W H f X Y (i % 2) (i / 2) = corH W H f X Y i := if_pos hI
theorem corR_bd {W H : Nat} {f : List Int} (hf : In16 f) (X Y : Int) (i k : Nat) : -32768 ≤ (corR W H f X Y i k).1 ∧ (corR W H f X Y i k).1 ≤ 32767 := by
  unfold corR
  split
  · exact heightF_in hf _ _
  · exact ⟨by decide, by decide⟩
end Go.Proofs.YtpmomimaihjmjaaGreat
/- The reference of layer 11: the ground, how steep it is, places. -/
namespace Go.Proofs.YtpmomimaihjmjaaGreat
open Go.RowKit
def wt (x : Int) (i : Nat) : Int := if i = 0 then 256 - x % 256 else x % 256
def exT (W H : Nat) (f : List Int) (X Y : Int) : Nat → Int
  | 0 => 0
  | i + 1 => exT W H f X Y i + (corR W H f X Y (i % 2) (i / 2)).1 * wt X (i % 2) * wt Y (i / 2)
theorem exT_eq {W H : Nat} {f : List Int} {X Y : Int} (h : codeF W H f X Y = 0) : exT W H f X Y 4 = exL (fourF W H f X Y) (X % 256) (Y % 256) := by
  have hI : InsP W H X Y := by
    unfold codeF at h
    split at h
    · assumption
    · exact absurd h (by decide)
  have e : fourF W H f X Y = [(corH W H f X Y 0).1, (corH W H f X Y 1).1, (corH W H f X Y 2).1, (corH W H f X Y 3).1] := by unfold fourF; rw [if_pos h]; rfl
  rw [e]
  simp only [exT, exL, exF, wt, corR_in hI]
  simp only [Nat.zero_mod, Nat.zero_div, if_true, show 1 % 2 = 1 from rfl, show 1 / 2 = 0 from rfl, show 2 % 2 = 0 from rfl, show 2 / 2 = 1 from rfl, show 3 % 2 = 1 from rfl, show 3 / 2 = 1 from rfl, show ((1 : Nat) = 0) = False from by simp, if_false]
  rw [Int.add_mul, Int.add_mul]
  omega
theorem wt_in (x : Int) (i : Nat) : 0 ≤ wt x i ∧ wt x i ≤ 256 := by unfold wt; split <;> omega
theorem exT_in {W H : Nat} {f : List Int} (hf : In16 f) (X Y : Int) : ∀ i : Nat, -(2147483648 * (i : Int)) ≤ exT W H f X Y i ∧ exT W H f X Y i ≤ 2147483648 * (i : Int)
  | 0 => by simp [exT]
  | i + 1 => by
    have h1 := exT_in hf (W := W) (H := H) X Y i
    have h2 := corR_bd hf (W := W) (H := H) X Y (i % 2) (i / 2)
    have h3 := wt_in X (i % 2)
    have h4 := wt_in Y (i / 2)
    have m1 := mulB 32768 256 (a := (corR W H f X Y (i % 2) (i / 2)).1) (b := wt X (i % 2)) (by omega) (by omega)
    have m2 := mulB 8388608 256 (a := (corR W H f X Y (i % 2) (i / 2)).1 * wt X (i % 2)) (b := wt Y (i / 2)) (by omega) (by omega)
    rw [exT]
    push_cast
    omega
theorem wrap3 {e c a b : Int} (h1 : InR .i64 (c * a)) (h2 : InR .i64 (c * a * b)) (h3 : InR .i64 (e + c * a * b)) : IntKind.i64.wrap (e + IntKind.i64.wrap (IntKind.i64.wrap (c * a) * b)) = e + c * a * b := by
  rw [wrap_in h1, wrap_in h2, wrap_in h3]
attribute [local irreducible] OJ J HdJ Code.wpIn wpListIn Oper.wpIn bodyPost CallsIn Does
set_option maxRecDepth 4000
end Go.Proofs.YtpmomimaihjmjaaGreat
/- The reference of layer 11: how rough the ground is. -/
namespace Go.Proofs.YtpmomimaihjmjaaGreat
open Go.RowKit
def hR (W H : Nat) (f : List Int) (a b : Int) : List Int := if (heightF W H f a b).2 = 0 then [(heightF W H f a b).1] else []
/-- The heights of a column of a square; of all its columns. -/
def colR (W H : Nat) (f : List Int) (y : Int) (far : Nat) (a : Int) : Nat → List Int
  | 0 => []
  | j + 1 => colR W H f y far a j ++ hR W H f a (y - far + j)
def sqR (W H : Nat) (f : List Int) (x y : Int) (far : Nat) : Nat → List Int
  | 0 => []
  | i + 1 => sqR W H f x y far i ++ colR W H f y far (x - far + i) (2 * far + 1)
theorem hR_at {W H : Nat} {f : List Int} {x y dx dy : Int} (hx : -1000 ≤ x ∧ x ≤ 1000) (hy : -1000 ≤ y ∧ y ≤ 1000) : hAt W H f x y dx dy = hR W H f (x + dx) (y + dy) := by
  unfold hAt hR wiF
  rw [if_neg (show ¬(x < -1000 ∨ 1000 < x) by omega), if_neg (show ¬(y < -1000 ∨ 1000 < y) by omega)]
/-- A sum over the first numbers. -/
def smI (φ : Nat → Int) : Nat → Int
  | 0 => 0
  | n + 1 => smI φ n + φ n
theorem smI_add (φ ψ : Nat → Int) : ∀ n, smI (fun i => φ i + ψ i) n = smI φ n + smI ψ n
  | 0 => rfl
  | n + 1 => by simp only [smI, smI_add φ ψ n]; omega
theorem smI_zero : ∀ n, smI (fun _ => 0) n = 0
  | 0 => rfl
  | n + 1 => by simp only [smI, smI_zero n]; omega
theorem smI_swap (φ : Nat → Nat → Int) (m : Nat) : ∀ n, smI (fun i => smI (fun j => φ i j) m) n = smI (fun j => smI (fun i => φ i j) n) m
  | 0 => by simp only [smI, smI_zero]
  | n + 1 => by simp only [smI, smI_swap φ m n, smI_add]
theorem smI_congr {φ ψ : Nat → Int} (h : ∀ i, φ i = ψ i) (n : Nat) : smI φ n = smI ψ n := by rw [show φ = ψ from funext h]
section
variable {W H : Nat} {f : List Int} {x y : Int} {μ : List Int → Int} (h0 : μ [] = 0) (ha : ∀ a b, μ (a ++ b) = μ a + μ b)
include h0 ha
theorem colR_sm (far : Nat) (a : Int) : ∀ j, μ (colR W H f y far a j) = smI (fun j => μ (hR W H f a (y - far + j))) j
  | 0 => h0
  | j + 1 => by rw [colR, ha, colR_sm far a j]; rfl
theorem sqR_sm (far : Nat) : ∀ i, μ (sqR W H f x y far i) = smI (fun i => smI (fun j => μ (hR W H f (x - far + i) (y - far + j))) (2 * far + 1)) i
  | 0 => h0
  | i + 1 => by rw [sqR, ha, sqR_sm far i, colR_sm h0 ha]; rfl
theorem rowH_sm (far : Nat) (dy : Int) : ∀ j, μ (rowH W H f x y far dy j) = smI (fun j => μ (hAt W H f x y ((j : Int) - far) dy)) j
  | 0 => h0
  | j + 1 => by rw [rowH, ha, rowH_sm far dy j]; rfl
theorem allH_sm (far : Nat) : ∀ i, μ (allH W H f x y far i) = smI (fun i => smI (fun j => μ (hAt W H f x y ((j : Int) - far) ((i : Int) - far))) (2 * far + 1)) i
  | 0 => h0
  | i + 1 => by rw [allH, ha, allH_sm far i, rowH_sm h0 ha]; rfl
theorem sq_same (hx : -1000 ≤ x ∧ x ≤ 1000) (hy : -1000 ≤ y ∧ y ≤ 1000) (far : Nat) : μ (sqR W H f x y far (2 * far + 1)) = μ (allH W H f x y far (2 * far + 1)) := by
  rw [sqR_sm h0 ha, allH_sm h0 ha, smI_swap]
  refine smI_congr (fun i => smI_congr (fun j => ?_) _) _
  rw [hR_at hx hy]
  congr 2 <;> omega
end
theorem rough_same {W H : Nat} {f : List Int} {x y : Int} (hx : -1000 ≤ x ∧ x ≤ 1000) (hy : -1000 ≤ y ∧ y ≤ 1000) (far : Nat) :
    sumZ (sqR W H f x y far (2 * far + 1)) = sumZ (allH W H f x y far (2 * far + 1)) ∧ sqZ (sqR W H f x y far (2 * far + 1)) = sqZ (allH W H f x y far (2 * far + 1)) ∧ (sqR W H f x y far (2 * far + 1)).length = (allH W H f x y far (2 * far + 1)).length := by
  refine ⟨sq_same rfl sumZ_app hx hy far, sq_same rfl sqZ_app hx hy far, ?_⟩
  have := sq_same (μ := fun l => ((l.length : Nat) : Int)) (W := W) (H := H) (f := f) rfl (fun a b => by simp) hx hy far
  omega
theorem rough_congr {a b : List Int} (h1 : sumZ a = sumZ b) (h2 : sqZ a = sqZ b) (h3 : a.length = b.length) : roughR a = roughR b := by
  unfold roughR roughX roughE
  rw [h1, h2, h3]
theorem hR_in {W H : Nat} {f : List Int} (hf : In16 f) (a b : Int) : (hR W H f a b).length ≤ 1 ∧ ∀ z ∈ hR W H f a b, -32768 ≤ z ∧ z ≤ 32767 := by
  unfold hR
  split
  · exact ⟨Nat.le_refl _, fun z hz => by rw [List.mem_singleton.1 hz]; exact heightF_in hf _ _⟩
  · exact ⟨Nat.zero_le _, fun z hz => by cases hz⟩
theorem colR_in {W H : Nat} {f : List Int} (hf : In16 f) (y : Int) (far : Nat) (a : Int) : ∀ j, (colR W H f y far a j).length ≤ j ∧ ∀ z ∈ colR W H f y far a j, -32768 ≤ z ∧ z ≤ 32767
  | 0 => ⟨Nat.le_refl _, fun z hz => by cases hz⟩
  | j + 1 => by
    obtain ⟨h1, h2⟩ := colR_in hf (W := W) (H := H) y far a j
    obtain ⟨h3, h4⟩ := hR_in hf (W := W) (H := H) a (y - far + j)
    rw [colR]
    refine ⟨by rw [List.length_append]; omega, fun z hz => ?_⟩
    rcases List.mem_append.1 hz with h | h
    · exact h2 z h
    · exact h4 z h
theorem sqR_in {W H : Nat} {f : List Int} (hf : In16 f) (x y : Int) {far : Nat} (hfar : far ≤ 8) : ∀ i, (sqR W H f x y far i).length ≤ 17 * i ∧ ∀ z ∈ sqR W H f x y far i, -32768 ≤ z ∧ z ≤ 32767
  | 0 => ⟨Nat.le_refl _, fun z hz => by cases hz⟩
  | i + 1 => by
    obtain ⟨h1, h2⟩ := sqR_in hf (W := W) (H := H) x y hfar i
    obtain ⟨h3, h4⟩ := colR_in hf (W := W) (H := H) y far (x - far + i) (2 * far + 1)
    rw [sqR]
    refine ⟨by rw [List.length_append]; omega, fun z hz => ?_⟩
    rcases List.mem_append.1 hz with h | h
    · exact h2 z h
    · exact h4 z h
theorem sqZ_take (l : List Int) (i : Nat) (h : i < l.length) : sqZ (l.take (i + 1)) = sqZ (l.take i) + l.getD i 0 * l.getD i 0 := by
  rw [List.take_succ_eq_append_getElem h, sqZ_app]
  simp [sqZ, List.getD, List.getElem?_eq_getElem h]
def roughQ (W H : Nat) (f : List Int) (x y far : Int) : Int × Int := if x < -1000 ∨ 1000 < x ∨ y < -1000 ∨ 1000 < y then (0, 0) else roughR (sqH W H f x y far)
attribute [local irreducible] OJ J HdJ Code.wpIn wpListIn Oper.wpIn bodyPost CallsIn Does
set_option maxRecDepth 4000
end Go.Proofs.YtpmomimaihjmjaaGreat
/- Layer 10, the plain law: which tiles are at hand. -/
namespace Go.Proofs.YtpmomimaihjmjaaGreat
abbrev tS (l : List Slt) (k : Nat) : Int := (l.getD k default).t
abbrev uS (l : List Slt) (k : Nat) : Int := (l.getD k default).u
/-- Slots, as they were used, the last one first. -/
structure Rel (room : Nat) (l : List Slt) (clock : Int) (ks : List Nat) : Prop where
  desc : ks.Pairwise fun a b => uS l b < uS l a
  lt : ∀ k ∈ ks, k < room ∧ 0 ≤ tS l k ∧ uS l k ≤ clock
  all : ∀ k, k < room → 0 ≤ tS l k → k ∈ ks
  dis : ∀ j k, j < room → k < room → 0 ≤ tS l j → tS l j = tS l k → j = k
theorem Rel.nodup {room : Nat} {l : List Slt} {clock : Int} {ks : List Nat} (h : Rel room l clock ks) : ks.Nodup := h.desc.imp fun h e => by subst e; omega
theorem pigeon : ∀ (n : Nat) (l : List Nat), l.Nodup → (∀ x ∈ l, x < n) → l.length ≤ n
  | 0, l, _, h => by
    cases l with
    | nil => exact Nat.le_refl _
    | cons x r => exact absurd (h x (List.mem_cons_self ..)) (by omega)
  | n + 1, l, hd, h => by
    have h1 := pigeon n (l.erase n) (hd.erase n) (fun x hx => by
      have h2 := h x (List.mem_of_mem_erase hx)
      have h3 : x ≠ n := fun e => by subst e; exact hd.not_mem_erase hx
      omega)
    have h4 : l.length ≤ (l.erase n).length + 1 := by
      rw [List.length_erase]; split <;> omega
    omega
theorem full_len {n : Nat} {l : List Nat} (h : ∀ x, x < n → x ∈ l) : n ≤ l.length := by
  have : ∀ (m : Nat) (l : List Nat), (∀ x, x < m → x ∈ l) → m ≤ l.length := by
    intro m
    induction m with
    | zero => intro l _; exact Nat.zero_le _
    | succ m ih =>
      intro l hl
      have hm := hl m (by omega)
      have h1 := ih (l.erase m) (fun x hx => (List.mem_erase_of_ne (by omega)).2 (hl x (by omega)))
      have h2 := List.length_erase_of_mem hm
      have h3 := List.length_pos_of_mem hm
      omega
  exact this n l h
theorem bestH_spec (l : List Slt) (last : Int) : ∀ i, ((∀ j, j < i → ¬ (0 ≤ tS l j ∧ uS l j < last)) ∧ bestH l last i = -1) ∨ ∃ b : Nat, bestH l last i = b ∧ b < i ∧ (0 ≤ tS l b ∧ uS l b < last) ∧ ∀ j, j < i → 0 ≤ tS l j ∧ uS l j < last → uS l j ≤ uS l b
  | 0 => .inl ⟨fun j hj => by omega, rfl⟩
  | i + 1 => by
    rw [bestH]
    rcases bestH_spec l last i with ⟨h1, h2⟩ | ⟨b, h1, h2, h3, h4⟩
    · rw [h2]
      split
      · rename_i h
        refine .inr ⟨i, rfl, by omega, ⟨h.1, h.2.1⟩, fun j hj hq => ?_⟩
        rcases Nat.lt_or_ge j i with h5 | h5
        · exact absurd hq (h1 j h5)
        · obtain rfl : j = i := by omega
          exact Int.le_refl _
      · rename_i h
        refine .inl ⟨fun j hj hq => ?_, rfl⟩
        rcases Nat.lt_or_ge j i with h5 | h5
        · exact h1 j h5 hq
        · obtain rfl : j = i := by omega
          exact h ⟨hq.1, hq.2, .inl (by omega)⟩
    · rw [h1, Int.toNat_natCast]
      split
      · rename_i h
        have hu : uS l b < uS l i := by
          rcases h.2.2 with h5 | h5
          · omega
          · exact h5
        refine .inr ⟨i, rfl, by omega, ⟨h.1, h.2.1⟩, fun j hj hq => ?_⟩
        rcases Nat.lt_or_ge j i with h5 | h5
        · have := h4 j h5 hq; omega
        · obtain rfl : j = i := by omega
          exact Int.le_refl _
      · rename_i h
        refine .inr ⟨b, rfl, by omega, h3, fun j hj hq => ?_⟩
        rcases Nat.lt_or_ge j i with h5 | h5
        · exact h4 j h5 hq
        · obtain rfl : j = i := by omega
          rcases Int.lt_or_le (uS l b) (uS l j) with h6 | h6
          · exact absurd ⟨hq.1, hq.2, .inr h6⟩ h
          · exact h6
theorem held_rel {room : Nat} {l : List Slt} {clock : Int} {ks : List Nat} (h : Rel room l clock ks) : ∀ (rest pre : List Nat) (last : Int) (m : Nat), ks = pre ++ rest → rest.length ≤ m → (∀ k ∈ pre, last ≤ uS l k) → (∀ k ∈ rest, uS l k < last) → heldN l room m last = rest.map (tS l)
  | [], pre, last, m, he, _, hp, _ => by
    cases m with
    | zero => rfl
    | succ m =>
      rcases bestH_spec l last room with ⟨-, h2⟩ | ⟨b, -, h2, h3, -⟩
      · rw [heldN, h2]; rfl
      · have hb := h.all b h2 h3.1
        rw [he, List.append_nil] at hb
        have := hp b hb
        omega
  | k :: r, pre, last, m, he, hm, hp, hr => by
    cases m with
    | zero => simp at hm
    | succ m =>
      have hk : k ∈ ks := by rw [he]; simp
      obtain ⟨hk1, hk2, -⟩ := h.lt k hk
      have hkl := hr k (List.mem_cons_self ..)
      have hd := h.desc
      rw [he] at hd
      have hd2 := List.pairwise_cons.1 (List.pairwise_append.1 hd).2.1
      rcases bestH_spec l last room with ⟨h1, -⟩ | ⟨b, h1, h2, h3, h4⟩
      · exact absurd ⟨hk2, hkl⟩ (h1 k hk1)
      · have hb := h.all b h2 h3.1
        have hub := h4 k hk1 ⟨hk2, hkl⟩
        obtain rfl : b = k := by
          rw [he] at hb
          rcases List.mem_append.1 hb with h5 | h5
          · have := hp b h5; omega
          · rcases List.mem_cons.1 h5 with h6 | h6
            · exact h6
            · have := hd2.1 b h6; omega
        rw [heldN, h1, if_neg (by omega), Int.toNat_natCast, List.map_cons]
        congr 1
        refine held_rel h r (pre ++ [b]) _ m (by rw [he]; simp) (by simp at hm; omega) (fun k hk => ?_) (fun k hk => hd2.1 k hk)
        rcases List.mem_append.1 hk with h5 | h5
        · have := hp k h5
          show uS l b ≤ uS l k
          omega
        · rw [List.mem_singleton.1 h5]; exact Int.le_refl _
theorem Rel.held {room : Nat} {l : List Slt} {clock : Int} {ks : List Nat} (h : Rel room l clock ks) : heldN l room room (clock + 1) = ks.map (tS l) :=
  held_rel h ks [] _ room rfl (pigeon room ks h.nodup fun x hx => (h.lt x hx).1) (fun k hk => (by cases hk)) (fun k hk => by have := (h.lt k hk).2.2; omega)
theorem useL_eq (L : List Int) (n : Int) : ∀ i, i ≤ L.length → useL L n i = n :: (L.take i).filter (fun x => decide (x ≠ n)) ∧ metB L n i = (L.take i).any fun x => decide (x = n)
  | 0, _ => by simp [useL, metB]
  | i + 1, hi => by
    obtain ⟨h1, h2⟩ := useL_eq L n i (by omega)
    have e : L.getD i 0 = L[i] := by simp [List.getD_eq_getElem?_getD, List.getElem?_eq_getElem (show i < L.length by omega)]
    rw [useL, metB, h1, h2, e, List.take_succ_eq_append_getElem (by omega), List.filter_append, List.any_append]
    constructor
    · split <;> rename_i h <;> simp [h]
    · simp
theorem useL_all (L : List Int) (n : Int) : useL L n L.length = n :: L.filter (fun x => decide (x ≠ n)) ∧ metB L n L.length = L.any fun x => decide (x = n) := by
  have := useL_eq L n L.length (Nat.le_refl _)
  rwa [List.take_length] at this
theorem oldTo_min (l : List Slt) : ∀ i, ∀ j, j < i → uS l (oldTo l i) ≤ uS l j
  | 0, j, h => by omega
  | i + 1, j, h => by
    rw [oldTo]
    rcases Nat.lt_or_ge j i with h1 | h1
    · have := oldTo_min l i j h1
      split
      · rename_i h2; have h3 : uS l i < uS l (oldTo l i) := h2; omega
      · exact this
    · obtain rfl : j = i := by omega
      split
      · exact Int.le_refl _
      · rename_i h2; exact Int.not_lt.1 h2
theorem set_other {l : List Slt} {k j : Nat} {s : Slt} (h : j ≠ k) : (l.set k s).getD j default = l.getD j default := by rw [List.getD_eq_getElem?_getD, List.getElem?_set_ne (fun e => h e.symm), List.getD_eq_getElem?_getD]
theorem Rel.zero {room : Nat} (hr : room ≤ 32) : Rel room (newTo room) 0 [] :=
  ⟨.nil, fun k hk => (by cases hk), fun k hk h => (by rw [show tS (newTo room) k = -1 from newTo_neg room hr k hk] at h; omega), fun j k hj _ h => by rw [show tS (newTo room) j = -1 from newTo_neg room hr j hj] at h; omega⟩
theorem Rel.next {ys : List Int} {room n k : Nat} {l l' : List Slt} {clock met miss met' miss' : Int} {ks : List Nat} (h : Rel room l clock ks) (hl : room ≤ l.length) (hk : k < room) (hg : GetsC ys l room clock met miss n k l' met' miss') :
    ∃ ks', Rel room l' (clock + 1) ks' ∧ ks'.map (tS l') = (useL (ks.map (tS l)) n (ks.map (tS l)).length).take room ∧ met' = (if metB (ks.map (tS l)) n (ks.map (tS l)).length then met + 1 else met) ∧ miss' = (if metB (ks.map (tS l)) n (ks.map (tS l)).length then miss else miss + 1) := by
  rw [(useL_all ..).1, (useL_all ..).2]
  have hks := pigeon room ks h.nodup fun x hx => (h.lt x hx).1
  -- slot k was used now, holds n; the others are as they were
  have key : ∀ (s : Slt) (ks1 : List Nat), l' = l.set k s → s.t = n → s.u = clock + 1 → (∀ j ∈ ks1, j ≠ k ∧ j ∈ ks) → ks1.Pairwise (fun a b => uS l b < uS l a) → (∀ j, j < room → j ≠ k → 0 ≤ tS l j → j ∈ ks1 ∧ tS l j ≠ n) → Rel room l' (clock + 1) (k :: ks1) ∧ (k :: ks1).map (tS l') = (n : Int) :: ks1.map (tS l) := by
    intro s ks1 e et eu h1 h2 h3
    have a1 : tS l' k = n := by show (l'.getD k default).t = n; rw [e, getD_set_self (by omega), et]
    have a2 : uS l' k = clock + 1 := by show (l'.getD k default).u = clock + 1; rw [e, getD_set_self (by omega), eu]
    have a3 : ∀ j, j ≠ k → l'.getD j default = l.getD j default := fun j hj => by rw [e]; exact set_other hj
    have a4 : ∀ j, j ≠ k → tS l' j = tS l j := fun j hj => congrArg Slt.t (a3 j hj)
    have a5 : ∀ j, j ≠ k → uS l' j = uS l j := fun j hj => congrArg Slt.u (a3 j hj)
    refine ⟨⟨List.pairwise_cons.2 ⟨fun j hj => ?_, ?_⟩, fun j hj => ?_, fun j hj ht => ?_, fun i j hi hj ht he => ?_⟩, ?_⟩
    · rw [a2, a5 j (h1 j hj).1]; have := (h.lt j (h1 j hj).2).2.2; omega
    · refine h2.imp_of_mem fun {a b} ha hb hab => ?_
      rw [a5 a (h1 a ha).1, a5 b (h1 b hb).1]; exact hab
    · rcases List.mem_cons.1 hj with rfl | hj
      · exact ⟨hk, by rw [a1]; omega, by rw [a2]; exact Int.le_refl _⟩
      · obtain ⟨b1, b2⟩ := h1 j hj
        obtain ⟨c1, c2, c3⟩ := h.lt j b2
        exact ⟨c1, by rw [a4 j b1]; exact c2, by rw [a5 j b1]; omega⟩
    · by_cases hjk : j = k
      · rw [hjk]; exact List.mem_cons_self ..
      · rw [a4 j hjk] at ht
        exact List.mem_cons_of_mem _ (h3 j hj hjk ht).1
    · by_cases hik : i = k <;> by_cases hjk : j = k
      · omega
      · subst hik
        rw [a1, a4 j hjk] at he
        exact absurd he.symm (h3 j hj hjk (by omega)).2
      · subst hjk
        rw [a1, a4 i hik] at he
        rw [a4 i hik] at ht
        exact absurd he (h3 i hi hik ht).2
      · rw [a4 i hik, a4 j hjk] at he
        rw [a4 i hik] at ht
        exact h.dis i j hi hj ht he
    · rw [List.map_cons, a1]
      congr 1
      exact List.map_congr_left fun j hj => a4 j (h1 j hj).1
  rcases hg with ⟨h1, -, h3, h4, h5⟩ | ⟨h0, hold, ⟨zs, -, h2⟩, h4, h5⟩
  · have hkm : k ∈ ks := h.all k hk (by show 0 ≤ (l.getD k default).t; omega)
    obtain ⟨r1, r2⟩ := key _ (ks.filter fun j => decide (j ≠ k)) h3 h1 rfl (fun j hj => by have := List.mem_filter.1 hj; exact ⟨by simpa using this.2, this.1⟩) (h.desc.filter _) (fun j hj hjk ht => ⟨List.mem_filter.2 ⟨h.all j hj ht, by simpa using hjk⟩, fun e => hjk (h.dis j k hj hk ht (e.trans h1.symm))⟩)
    have hany : ((ks.map (tS l)).any fun x => decide (x = (n : Int))) = true := List.any_eq_true.2 ⟨tS l k, List.mem_map_of_mem hkm, decide_eq_true h1⟩
    rw [hany, if_pos rfl, if_pos rfl]
    refine ⟨_, r1, ?_, h4, h5⟩
    have hlen : (k :: ks.filter fun j => decide (j ≠ k)).length ≤ room := pigeon room _ r1.nodup fun x hx => (r1.lt x hx).1
    have e2 : (ks.map (tS l)).filter (fun x => decide (x ≠ (n : Int))) = (ks.filter fun j => decide (j ≠ k)).map (tS l) := by
      rw [List.filter_map]
      congr 1
      refine List.filter_congr fun j hj => ?_
      have hj' := h.lt j hj
      simp only [Function.comp_apply, decide_eq_decide]
      exact not_congr ⟨fun e => h.dis j k hj'.1 hk hj'.2.1 (e.trans h1.symm), fun e => by rw [e]; exact h1⟩
    rw [r2, e2, List.take_of_length_le]
    simpa using hlen
  · have hnot : ∀ j ∈ ks, tS l j ≠ n := fun j hj => h0 j (h.lt j hj).1
    have hany : ((ks.map (tS l)).any fun x => decide (x = (n : Int))) = false := by
      rw [List.any_eq_false]
      intro x hx
      obtain ⟨j, hj, rfl⟩ := List.mem_map.1 hx
      simpa using hnot j hj
    have hfil : (ks.map (tS l)).filter (fun x => decide (x ≠ (n : Int))) = ks.map (tS l) := List.filter_eq_self.2 fun x hx => by
      obtain ⟨j, hj, rfl⟩ := List.mem_map.1 hx
      simpa using hnot j hj
    rw [hany, hfil, if_neg (by simp), if_neg (by simp)]
    rcases hold with ⟨hneg, -⟩ | ⟨hfull, rfl⟩
    · have hkn : k ∉ ks := fun hm => by have : 0 ≤ (l.getD k default).t := (h.lt k hm).2.1; omega
      obtain ⟨r1, r2⟩ := key _ ks h2 rfl rfl (fun j hj => ⟨fun e => hkn (e ▸ hj), hj⟩) h.desc (fun j hj hjk ht => ⟨h.all j hj ht, h0 j hj⟩)
      refine ⟨_, r1, ?_, h4, h5⟩
      have hlen : (k :: ks).length ≤ room := pigeon room _ r1.nodup fun x hx => (r1.lt x hx).1
      rw [r2, List.take_of_length_le]
      simpa using hlen
    · have hmin := oldTo_min l room
      have hkm : oldTo l room ∈ ks := h.all _ hk (hfull _ hk)
      have hrl := full_len (n := room) (l := ks) (fun x hx => h.all x hx (hfull x hx))
      generalize oldTo l room = k at *
      obtain ⟨r1, r2⟩ := key _ (ks.filter fun j => decide (j ≠ k)) h2 rfl rfl (fun j hj => by have := List.mem_filter.1 hj; exact ⟨by simpa using this.2, this.1⟩) (h.desc.filter _) (fun j hj hjk ht => ⟨List.mem_filter.2 ⟨h.all j hj ht, by simpa using hjk⟩, h0 j hj⟩)
      refine ⟨_, r1, ?_, h4, h5⟩
      rw [r2]
      have hne : ks ≠ [] := List.ne_nil_of_mem hkm
      have hdl := List.dropLast_concat_getLast hne
      have hd := h.desc
      rw [← hdl] at hd
      have hda := List.pairwise_append.1 hd
      have hlast : ks.getLast hne = k := by
        rw [← hdl] at hkm
        rcases List.mem_append.1 hkm with h6 | h6
        · have h7 := hda.2.2 k h6 (ks.getLast hne) (List.mem_singleton.2 rfl)
          have h8 := hmin (ks.getLast hne) (h.lt _ (List.getLast_mem hne)).1
          omega
        · exact (List.mem_singleton.1 h6).symm
      have hfl : (ks.filter fun j => decide (j ≠ k)) = ks.dropLast := by
        conv => lhs; rw [← hdl]
        rw [List.filter_append, hlast]
        have e1 : (ks.dropLast.filter fun j => decide (j ≠ k)) = ks.dropLast := List.filter_eq_self.2 fun j hj => by
          have h7 := hda.2.2 j hj k (by rw [hlast]; exact List.mem_singleton.2 rfl)
          have : j ≠ k := fun e => by subst e; omega
          simpa using this
        rw [e1]
        simp
      rw [hfl, List.dropLast_eq_take, show ks.length - 1 = room - 1 by omega]
      have hr1 : room = (room - 1) + 1 := by omega
      conv => rhs; rw [hr1]
      rw [List.take_succ_cons, List.map_take]
end Go.Proofs.YtpmomimaihjmjaaGreat
/- Layer 10: what the statements' own check reckons. -/
namespace Go.Proofs.YtpmomimaihjmjaaGreat
open Go.RowKit
/-- What Height does to what is at hand. -/
theorem HgtS.rel {ys f : List Int} {room : Nat} {s s' : CaV} {x y b : Int} {ks : List Nat} (hg : HgtS ys room s x y s') (hF : CaF ys f room) (h : CaOk ys f room s b) (hR : Rel room s.l s.clock ks) (ho : ¬ (x < 0 ∨ y < 0 ∨ (wY ys : Int) ≤ x ∨ (hY ys : Int) ≤ y)) :
    ∃ ks', Rel room s'.l s'.clock ks' ∧ ks'.map (tS s'.l) = (useL (ks.map (tS s.l)) (y.toNat / 16 * cntF (wY ys) + x.toNat / 16 : Nat) (ks.map (tS s.l)).length).take room ∧ s'.met = (if metB (ks.map (tS s.l)) (y.toNat / 16 * cntF (wY ys) + x.toNat / 16 : Nat) (ks.map (tS s.l)).length then s.met + 1 else s.met) ∧ s'.miss = (if metB (ks.map (tS s.l)) (y.toNat / 16 * cntF (wY ys) + x.toNat / 16 : Nat) (ks.map (tS s.l)).length then s.miss else s.miss + 1) := by
  rcases hg with ⟨h1, -⟩ | ⟨-, k, hk, h1, h2⟩
  · exact absurd h1 ho
  · rw [h2]
    exact hR.next (by have := h.len; have := hF.room; omega) hk h1
def zf10 : List Int := fieldF [5, 6, -32768] 160
theorem zf10_len : zf10.length = 160 := by decide +kernel
theorem zf10_in : In16 zf10 := in16_of (fun x hx => by
  have h : ∀ y ∈ zf10, -32768 ≤ y ∧ y ≤ 32767 := by decide +kernel
  exact h x hx)
theorem works10_plain {ys : List Int} {room : Nat} (hr : room = 4) (hw : wY ys = 32) (hh : hY ys = 5) (hF : CaF ys zf10 room) {s1 s2 s3 s4 : CaV} (h1 : HgtS ys room (newV 4) 1 0 s1) (h2 : HgtS ys room s1 2 0 s2) (h3 : HgtS ys room s2 32 0 s3) (h4 : HgtS ys room s3 20 0 s4) : s4.met = 1 ∧ s4.miss = 2 ∧ heldN s4.l room room (s4.clock + 1) = [1, 0] := by
  subst hr
  have k0 : CaOk ys zf10 4 (newV 4) 0 := newV_ok (by omega)
  obtain ⟨ks1, r1, e1, m1, i1⟩ := h1.rel hF k0 (Rel.zero (by omega)) (by rw [hw, hh]; decide)
  have k1 := h1.ok hF k0
  obtain ⟨ks2, r2, e2, m2, i2⟩ := h2.rel hF k1 r1 (by rw [hw, hh]; decide)
  have k2 := h2.ok hF k1
  obtain rfl : s3 = s2 := by
    rcases h3 with ⟨-, h⟩ | ⟨h, -⟩
    · exact h
    · rw [hw, hh] at h; exact absurd (by decide) h
  obtain ⟨ks4, r4, e4, m4, i4⟩ := h4.rel hF k2 r2 (by rw [hw, hh]; decide)
  rw [hw] at e1 m1 i1 e2 m2 i2 e4 m4 i4
  rw [e1] at e2 m2 i2
  rw [e2] at e4 m4 i4
  rw [r4.held, e4, m4, i4, m2, i2, m1, i1]
  exact ⟨by decide, by decide, by decide⟩
attribute [local irreducible] OJ J HdJ Code.wpIn wpListIn Oper.wpIn bodyPost CallsIn Does
set_option maxRecDepth 4000
end Go.Proofs.YtpmomimaihjmjaaGreat
/- Layer 11: what the statements' own check reckons. -/
namespace Go.Proofs.YtpmomimaihjmjaaGreat
open Go.RowKit
theorem run_eqSpot (t u : TypeId) (x y : Operand) (a b c d : Int) (ht : t = 24) : PV Tryz.prog (.binOp .eql t x y u) [.agg #[.int .i64 a, .int .i64 b], .agg #[.int .i64 c, .int .i64 d]] (.bool (a == c && b == d)) True := ⟨by
  subst ht
  rintro _ ρ ⟨dst, op', ty, pos, aft, gd⟩ rfl h w
  obtain ⟨h1, h2⟩ := map2 h
  have u2 := Tryz.underlying2
  have a2 := Tryz.isAgg2
  have z2 := Tryz.sizeOf2
  have hS : Tryz.prog.underlying 24 = some (.struct (Tryz.prog.fieldsOf 24)) := by kernel_rfl
  have hp : Tryz.prog.stoodInHeld 24 = false := by kernel_rfl
  have hm : Tryz.prog.eqGuardType Tryz.prog.depth 24 = false := by kernel_rfl
  simp only [execOp, h1, h2, Sem.run_bind, run_eqGuard_agg w _ _ _ _ _ _ hm, Result.andThen_ok]
  rw [run_eql_struct, show (10000 : Nat) = 9999 + 1 from rfl, run_equalIn_agg w 9999 24 _ _ hS hp]
  simp only [Program.fieldsOf, Tryz.underlying24]
  go_simp
  by_cases h1 : a = c <;> by_cases h2 : b = d <;> simp [h1, h2]⟩
instance (u : TypeId) (x y : Operand) (a b c d : Int) : PV Tryz.prog (.binOp .eql 24 x y u) [.agg #[.int .i64 a, .int .i64 b], .agg #[.int .i64 c, .int .i64 d]] (.bool (a == c && b == d)) True := run_eqSpot _ u x y a b c d rfl
instance {w0 : World} {W : Nat → Prop} {H : List HE} (u : TypeId) (x y : Operand) (a b c d : Int) : MS Tryz.prog w0 W H (.binOp .eql 24 x y u) [.agg #[.int .i64 a, .int .i64 b], .agg #[.int .i64 c, .int .i64 d]] (.bool (a == c && b == d)) True := ⟨by
  intro _ F n N ds σ dd ty pos aft gd K Q _ hv hdN h
  exact o_val (by simp) rfl hdN (fun a w ha _ => pq_of (o := ⟨some dd, _, ty, pos, aft, gd⟩) hv trivial a.eval (fun x _ u hu => ha.eval hu) w) h⟩
theorem works11_plain : ((heightT 2 2 [0, 16, 32, 48] 128 64 = 256 ∧ codeF 2 2 [0, 16, 32, 48] 128 64 = 0) ∧ (slopeT 2 2 [0, 16, 32, 48] 128 64).1 = 256 ∧ (slopeT 2 2 [0, 16, 32, 48] 128 64).2 = 512) ∧ codeF 2 2 [0, 16, 32, 48] 257 0 = 9 ∧ heightT 2 2 [0, 16, 32, 48] 257 0 = 0 ∧ heightT 2 2 [0, 16, 32, 48] 256 256 = 768 ∧ codeF 2 2 [0, 16, 32, 48] 256 256 = 0 := by decide +kernel
theorem works11_rough : (roughR (sqH 2 2 [0, 16, 32, 48] 0 0 1)).1 = 286 ∧ (roughR (sqH 2 2 [0, 16, 32, 48] 0 0 1)).2 = 4 := by
  have e : sqH 2 2 [0, 16, 32, 48] 0 0 1 = [0, 16, 32, 48] := by decide +kernel
  rw [e]
  have e2 : roughX [0, 16, 32, 48] = 81920 := by decide +kernel
  have e3 : isq 81920 = 286 := isq_of (by decide) (by decide)
  unfold roughR
  rw [if_neg (by decide), e2, e3]
  exact ⟨rfl, rfl⟩
attribute [local irreducible] OJ J HdJ Code.wpIn wpListIn Oper.wpIn bodyPost CallsIn Does
set_option maxRecDepth 4000
end Go.Proofs.YtpmomimaihjmjaaGreat
/- Layer 11's statements: the walk of TerrainNear. -/
namespace Go.Proofs.YtpmomimaihjmjaaGreat
open Go.RowKit
def loN (W H : Nat) (f : List Int) (X Y : Int) : Nat → Int
  | 0 => 1048576
  | i + 1 => min (loN W H f X Y i) (corR W H f X Y (i % 2) (i / 2)).1
def hiN (W H : Nat) (f : List Int) (X Y : Int) : Nat → Int
  | 0 => -1048576
  | i + 1 => max (hiN W H f X Y i) (corR W H f X Y (i % 2) (i / 2)).1
theorem lin_lo {p q t m : Int} (ht : 0 ≤ t ∧ t ≤ 256) (hp : m ≤ p) (hq : m ≤ q) : 256 * m ≤ p * (256 - t) + q * t := by
  have h1 := Int.mul_le_mul_of_nonneg_right hp (show 0 ≤ 256 - t by omega)
  have h2 := Int.mul_le_mul_of_nonneg_right hq ht.1
  have h3 : m * (256 - t) + m * t = 256 * m := by rw [← Int.mul_add, show 256 - t + t = 256 by omega, Int.mul_comm]
  omega
theorem lin_hi {p q t m : Int} (ht : 0 ≤ t ∧ t ≤ 256) (hp : p ≤ m) (hq : q ≤ m) : p * (256 - t) + q * t ≤ 256 * m := by
  have h1 := Int.mul_le_mul_of_nonneg_right hp (show 0 ≤ 256 - t by omega)
  have h2 := Int.mul_le_mul_of_nonneg_right hq ht.1
  have h3 : m * (256 - t) + m * t = 256 * m := by rw [← Int.mul_add, show 256 - t + t = 256 by omega, Int.mul_comm]
  omega
theorem near_law {W H : Nat} {f : List Int} {X Y : Int} (hc : codeF W H f X Y = 0) :
    (-2048 ≤ heightT W H f X Y * 4096 - exT W H f X Y 4 ∧ heightT W H f X Y * 4096 - exT W H f X Y 4 ≤ 2048) ∧ 16 * loN W H f X Y 4 ≤ heightT W H f X Y ∧ heightT W H f X Y ≤ 16 * hiN W H f X Y 4 := by
  have hI : InsP W H X Y := by
    unfold codeF at hc
    split at hc
    · assumption
    · exact absurd hc (by decide)
  have e4 : fourF W H f X Y = [(corR W H f X Y 0 0).1, (corR W H f X Y 1 0).1, (corR W H f X Y 0 1).1, (corR W H f X Y 1 1).1] := by
    unfold fourF
    rw [if_pos hc]
    have k0 := corR_in hI (f := f) 0
    have k1 := corR_in hI (f := f) 1
    have k2 := corR_in hI (f := f) 2
    have k3 := corR_in hI (f := f) 3
    rw [show corR W H f X Y 0 0 = _ from k0, show corR W H f X Y 1 0 = _ from k1, show corR W H f X Y 0 1 = _ from k2, show corR W H f X Y 1 1 = _ from k3]
    rfl
  have el : loN W H f X Y 4 = min (min (min (min 1048576 (corR W H f X Y 0 0).1) (corR W H f X Y 1 0).1) (corR W H f X Y 0 1).1) (corR W H f X Y 1 1).1 := rfl
  have eh : hiN W H f X Y 4 = max (max (max (max (-1048576) (corR W H f X Y 0 0).1) (corR W H f X Y 1 0).1) (corR W H f X Y 0 1).1) (corR W H f X Y 1 1).1 := rfl
  have eE := exT_eq hc
  unfold heightT
  rw [if_pos hc, eE, e4, el, eh]
  simp only [exL, exF]
  generalize (corR W H f X Y 0 0).1 = a
  generalize (corR W H f X Y 1 0).1 = b
  generalize (corR W H f X Y 0 1).1 = c
  generalize (corR W H f X Y 1 1).1 = d
  generalize hlo : min (min (min (min 1048576 a) b) c) d = lo
  generalize hhi : max (max (max (max (-1048576) a) b) c) d = hi
  have hx : 0 ≤ X % 256 ∧ X % 256 ≤ 256 := by omega
  have hy : 0 ≤ Y % 256 ∧ Y % 256 ≤ 256 := by omega
  have l1 := lin_lo hx (show lo ≤ a by omega) (show lo ≤ b by omega)
  have l2 := lin_lo hx (show lo ≤ c by omega) (show lo ≤ d by omega)
  have l3 := lin_lo hy l1 l2
  have g1 := lin_hi hx (show a ≤ hi by omega) (show b ≤ hi by omega)
  have g2 := lin_hi hx (show c ≤ hi by omega) (show d ≤ hi by omega)
  have g3 := lin_hi hy g1 g2
  generalize (a * (256 - X % 256) + b * (X % 256)) * (256 - Y % 256) + (c * (256 - X % 256) + d * (X % 256)) * (Y % 256) = E at *
  clear l1 l2 g1 g2
  omega
attribute [local irreducible] OJ J HdJ Code.wpIn wpListIn Oper.wpIn bodyPost CallsIn Does
set_option maxRecDepth 4000
end Go.Proofs.YtpmomimaihjmjaaGreat
/- Package pyramid: cells, levels, halves. -/
namespace Go.Proofs.YtpmomimaihjmjaaGreat
open Go.RowKit
/-- The least and the greatest of some heights, and how many there are. -/
structure Cel where
  lo : Int
  hi : Int
  n : Int
instance : Inhabited Cel := ⟨⟨0, 0, 0⟩⟩
abbrev celE : Cel → List Value := fun c => [.int .i16 c.lo, .int .i16 c.hi, .int .i64 c.n]
instance : RowE celE 3 := ⟨fun _ => rfl, by decide⟩
instance : OneE celE := ⟨fun a u hu => by simp [celE] at hu; rcases hu with rfl | rfl | rfl <;> rfl⟩
instance (priority := 2000) (q : Cel) : UnE celE [.int .i16 q.lo, .int .i16 q.hi, .int .i64 q.n] q := ⟨rfl⟩
instance (x y z : Int) : UnE celE [.int .i16 x, .int .i16 y, .int .i64 z] ⟨x, y, z⟩ := ⟨rfl⟩
def joinC (a b : Cel) : Cel := if b.n < 1 then a else if a.n = 0 then b else ⟨min a.lo b.lo, max a.hi b.hi, a.n + b.n⟩
def jTo (l : List Cel) : Nat → Cel
  | 0 => ⟨0, 0, 0⟩
  | k + 1 => joinC (jTo l k) (l.getD k default)
def CelOk (c : Cel) : Prop := 0 ≤ c.n ∧ c.n ≤ 1000000
theorem jTo_bnd {l : List Cel} (h : ∀ c ∈ l, CelOk c) : ∀ k, k ≤ l.length → 0 ≤ (jTo l k).n ∧ (jTo l k).n ≤ 1000000 * (k : Int)
  | 0, _ => by simp [jTo]
  | k + 1, hk => by
    have h1 := jTo_bnd h k (by omega)
    have h2 := h (l.getD k default) (by rw [List.getD_eq_getElem?_getD, List.getElem?_eq_getElem (by omega)]; exact List.getElem_mem _)
    unfold CelOk at h2
    unfold jTo joinC
    push_cast
    split
    · omega
    · split
      · omega
      · simp only; omega
/-- A cell of a level; of none that there is an empty one. -/
def atP (w h : Int) (cs : List Cel) (x y : Int) : Cel := if 0 ≤ x ∧ x < w ∧ 0 ≤ y ∧ y < h then cs.getD (y * w + x).toNat default else ⟨0, 0, 0⟩
theorem at_idx {w h x y : Int} {m : Nat} (hm : (m : Int) = w * h) (hx : 0 ≤ x ∧ x < w) (hy : 0 ≤ y ∧ y < h) : 0 ≤ y * w + x ∧ y * w + x < m ∧ 0 ≤ y * w ∧ y * w ≤ m := by
  have h1 := Int.mul_nonneg hy.1 (show 0 ≤ w by omega)
  have h2 := Int.mul_le_mul_of_nonneg_right (show y ≤ h - 1 by omega) (show 0 ≤ w by omega)
  rw [Int.sub_mul, Int.one_mul, Int.mul_comm h] at h2
  omega
attribute [local irreducible] OJ J HdJ Code.wpIn wpListIn Oper.wpIn bodyPost CallsIn Does
set_option maxRecDepth 4000
set_option maxHeartbeats 8000000 in
theorem join_any (A : Option Addr) (c : Nat) (l : List Cel) (w : World) (hr : RoA w (blocks []) A l.length c 3 (flat celE l)) (hl : l.length ≤ 1000) (hok : ∀ c ∈ l, CelOk c) :
    Does Tryz.prog 29 [.slice A l.length c] [] w (fun v S' => v = .agg (celE (jTo l l.length)).toArray ∧ S' = []) := by
  refine does_of Tryz.func29 rfl Tryz.ntmps29 rfl ⟨by simp, .nil⟩ (fun n => ?_)
  simp only [slots]
  refine z_gob
  rename_i b2 b3
  refine c_loop (X := Nat) (fun k => k ≤ l.length) (fun k => [(2, .pointer (some ⟨b2, 0, none⟩)), (3, .pointer (some ⟨b3, 0, none⟩)), (6, .slice A l.length c), (7, .int .i64 l.length), (8, .int .i64 k)])
    (fun k => [.blk b3 65 (celE (jTo l k)), .blk b2 65 [.int .i16 0, .int .i16 0, .int .i64 0]]) (fun k => l.length - k) 0 (by simp) ⟨rfl, rfl, rfl, rfl, rfl, trivial⟩ (Sub.refl _) ?_
  intro k hk
  have hb := jTo_bnd hok k hk
  have ej : jTo l (k + 1) = joinC (jTo l k) (l.getD k default) := rfl
  have hko : k < l.length → CelOk (l.getD k default) := fun h => hok _ (by rw [List.getD_eq_getElem?_getD, List.getElem?_eq_getElem h]; exact List.getElem_mem _)
  unfold CelOk at hko
  unfold joinC at ej
  generalize hq : jTo l k = q at *
  refine z_gob
  · have e : jTo l (k + 1) = q := by rw [ej, if_pos (by omega)]
    exact c_round (k + 1) (by show k + 1 ≤ _; omega) (by show _ - (k + 1) < _ - k; omega) ⟨rfl, rfl, rfl, rfl, by simp [look], trivial⟩ (by rw [e]; exact Sub.au)
  · have e : jTo l (k + 1) = l.getD k default := by rw [ej, if_neg (by omega), if_pos (by omega)]
    exact c_round (k + 1) (by show k + 1 ≤ _; omega) (by show _ - (k + 1) < _ - k; omega) ⟨rfl, rfl, rfl, rfl, by simp [look], trivial⟩ (by rw [e]; exact Sub.au)
  · have e : jTo l (k + 1) = ⟨min q.lo (l.getD k default).lo, max q.hi (l.getD k default).hi, q.n + (l.getD k default).n⟩ := by rw [ej, if_neg (by omega), if_neg (by omega)]
    exact c_round (k + 1) (by show k + 1 ≤ _; omega) (by show _ - (k + 1) < _ - k; omega) ⟨rfl, rfl, rfl, rfl, by simp [look], trivial⟩ (by rw [e]; exact Sub.au)
  · obtain rfl : k = l.length := by omega
    rw [hq]
    refine z_ro
    exact ⟨rfl, rfl⟩
set_option maxHeartbeats 8000000 in
theorem atP_any (wd ht : Int) (A : Option Addr) (c : Nat) (cs : List Cel) (x y : Int) (w : World) (hr : RoA w (blocks []) A cs.length c 3 (flat celE cs)) (hm : (cs.length : Int) = wd * ht) (hl : cs.length ≤ 1000000) :
    Does Tryz.prog 35 [.agg #[.int .i64 wd, .int .i64 ht, .slice A cs.length c], .int .i64 x, .int .i64 y] [] w (fun v S' => v = .agg (celE (atP wd ht cs x y)).toArray ∧ S' = []) := by
  refine does_of Tryz.func35 rfl Tryz.ntmps35 rfl ⟨by simp, .nil⟩ (fun n => ?_)
  simp only [slots]
  unfold atP
  by_cases hin : 0 ≤ x ∧ x < wd ∧ 0 ≤ y ∧ y < ht
  · have hi := at_idx hm ⟨hin.1, hin.2.1⟩ ⟨hin.2.2.1, hin.2.2.2⟩
    rw [if_pos hin]
    refine z_gob
    refine z_ro
    exact ⟨rfl, rfl⟩
  · rw [if_neg hin]
    refine z_gob
    all_goals (refine z_ro; exact ⟨rfl, rfl⟩)
/-- A level: how wide and high it is, where its cells lie, and these. -/
structure Lv where
  w : Nat
  h : Nat
  A : Option Addr
  c : Nat
  cs : List Cel
instance : Inhabited Lv := ⟨⟨0, 0, none, 0, []⟩⟩
abbrev lvE : Lv → List Value := fun l => [.int .i64 l.w, .int .i64 l.h, .slice l.A l.cs.length l.c]
instance : RowE lvE 3 := ⟨fun _ => rfl, by decide⟩
instance : OneE lvE := ⟨fun a u hu => by simp [lvE] at hu; rcases hu with rfl | rfl | rfl <;> rfl⟩
def hf (n : Nat) : Nat := (n + 1) / 2
/-- Cell x, y of the level above one. -/
def hAtP (w h : Nat) (cs : List Cel) (x y : Nat) : Cel := jTo [atP w h cs (2 * x) (2 * y), atP w h cs (2 * x + 1) (2 * y), atP w h cs (2 * x) (2 * y + 1), atP w h cs (2 * x + 1) (2 * y + 1)] 4
def hRow (w h : Nat) (cs : List Cel) (y : Nat) : Nat → List Cel
  | 0 => []
  | x + 1 => hRow w h cs y x ++ [hAtP w h cs x y]
def hAll (w h : Nat) (cs : List Cel) : Nat → List Cel
  | 0 => []
  | y + 1 => hAll w h cs y ++ hRow w h cs y (hf w)
theorem hRow_len (w h : Nat) (cs : List Cel) (y : Nat) : ∀ x, (hRow w h cs y x).length = x
  | 0 => rfl
  | x + 1 => by rw [hRow, List.length_append, hRow_len w h cs y x]; rfl
theorem hAll_len (w h : Nat) (cs : List Cel) : ∀ y, (hAll w h cs y).length = y * hf w
  | 0 => by simp [hAll]
  | y + 1 => by rw [hAll, List.length_append, hAll_len w h cs y, hRow_len, Nat.add_mul, Nat.one_mul]
theorem atL_ok {w h : Int} {cs : List Cel} (hok : ∀ c ∈ cs, CelOk c) (x y : Int) : CelOk (atP w h cs x y) := by
  unfold atP
  split
  · rw [List.getD_eq_getElem?_getD]
    cases hq : cs[(y * w + x).toNat]? with
    | none => simp [CelOk]; decide
    | some c => simpa using hok c (List.mem_of_getElem? hq)
  · simp [CelOk]
set_option maxHeartbeats 32000000 in
theorem halved_any (wd ht : Nat) (A : Option Addr) (c : Nat) (cs : List Cel) (w : World) (hr : RoA w (blocks []) A cs.length c 3 (flat celE cs)) (hm : cs.length = wd * ht) (hs : wd ≤ 256 ∧ ht ≤ 256) (hok : ∀ c ∈ cs, CelOk c) :
    Does Tryz.prog 19 [.agg #[.int .i64 wd, .int .i64 ht, .slice A cs.length c]] [] w (fun v S' => ∃ A' c', v = .agg #[.int .i64 (hf wd), .int .i64 (hf ht), .slice A' (hAll wd ht cs (hf ht)).length c'] ∧ S' = [.row (.slice A' (hAll wd ht cs (hf ht)).length c') 65 3 (hAll wd ht cs (hf ht)).length (flat celE (hAll wd ht cs (hf ht)))]) := by
  have hml : cs.length ≤ 1000000 := by have := Nat.mul_le_mul hs.1 hs.2; omega
  have hwd : hf wd ≤ 128 ∧ ((wd : Int) + 1) / 2 = (hf wd : Nat) := by unfold hf; omega
  have hht : hf ht ≤ 128 ∧ ((ht : Int) + 1) / 2 = (hf ht : Nat) := by unfold hf; omega
  refine does_of Tryz.func19 rfl Tryz.ntmps19 rfl ⟨by simp, .nil⟩ (fun n => ?_)
  simp only [slots]
  refine j_nil (e := 65) (size := 3) ?_
  refine z_gob
  rw [hwd.2, hht.2]
  rename_i b1 b2 b3
  refine c_loop (X := Nat × Option Addr × Nat) (fun q => q.1 ≤ hf ht) (fun q => [(1, .pointer (some ⟨b1, 0, none⟩)), (2, .pointer (some ⟨b2, 0, none⟩)), (3, .pointer (some ⟨b3, 0, none⟩)), (16, .int .i64 (hf ht : Nat)), (17, .int .i64 q.1)])
    (fun q => [.blk b3 63 [.int .i64 (hf wd : Nat), .int .i64 (hf ht : Nat), .slice q.2.1 (hAll wd ht cs q.1).length q.2.2], .blk b2 63 [.int .i64 0, .int .i64 0, .slice none 0 0], .blk b1 63 [.int .i64 wd, .int .i64 ht, .slice A cs.length c],
      .row (.slice q.2.1 (hAll wd ht cs q.1).length q.2.2) 65 3 (hAll wd ht cs q.1).length (flat celE (hAll wd ht cs q.1))]) (fun q => hf ht - q.1) (0, none, 0) (by simp) ⟨rfl, rfl, rfl, rfl, rfl, trivial⟩ (Sub.refl _) ?_
  rintro ⟨y, A1, c1⟩ hy
  dsimp only at hy ⊢
  have hl1 := hAll_len wd ht cs y
  have hm1 : y * hf wd ≤ 128 * 128 := Nat.mul_le_mul (by omega) hwd.1
  refine z_gob
  · have hlt : y < hf ht := by omega
    refine c_loop (X := Nat × Option Addr × Nat) (fun q => q.1 ≤ hf wd) (fun q => [(1, .pointer (some ⟨b1, 0, none⟩)), (2, .pointer (some ⟨b2, 0, none⟩)), (3, .pointer (some ⟨b3, 0, none⟩)), (16, .int .i64 (hf ht : Nat)), (17, .int .i64 y), (4, .int .i64 y), (21, .int .i64 (hf wd : Nat)), (22, .int .i64 q.1)])
      (fun q => [.blk b3 63 [.int .i64 (hf wd : Nat), .int .i64 (hf ht : Nat), .slice q.2.1 (hAll wd ht cs y ++ hRow wd ht cs y q.1).length q.2.2], .blk b2 63 [.int .i64 0, .int .i64 0, .slice none 0 0], .blk b1 63 [.int .i64 wd, .int .i64 ht, .slice A cs.length c],
        .row (.slice q.2.1 (hAll wd ht cs y ++ hRow wd ht cs y q.1).length q.2.2) 65 3 (hAll wd ht cs y ++ hRow wd ht cs y q.1).length (flat celE (hAll wd ht cs y ++ hRow wd ht cs y q.1))]) (fun q => hf wd - q.1) (0, A1, c1) (by simp) ⟨rfl, rfl, rfl, rfl, rfl, rfl, rfl, rfl, trivial⟩ (by simp only [hRow, List.append_nil]; exact Sub.au) ?_
    rintro ⟨x, A2, c2⟩ hx
    dsimp only at hx ⊢
    have hl2 := hRow_len wd ht cs y x
    refine z_gob
    · have hlx : x < hf wd := by omega
      refine c_dre 3 rfl rfl (by decide) (by decide +kernel) ?_
      refine z_gob
      refine lfv rfl rfl rfl (fun w hw => atP_any wd ht A c cs (2 * x) (2 * y) w ⟨hr.h.go hw (Split.nil _)⟩ (by rw [hm]; push_cast; rfl) hml) ?_
      refine z_gob
      refine lfv rfl rfl rfl (fun w hw => atP_any wd ht A c cs (2 * x + 1) (2 * y) w ⟨hr.h.go hw (Split.nil _)⟩ (by rw [hm]; push_cast; rfl) hml) ?_
      refine z_gob
      refine lfv rfl rfl rfl (fun w hw => atP_any wd ht A c cs (2 * x) (2 * y + 1) w ⟨hr.h.go hw (Split.nil _)⟩ (by rw [hm]; push_cast; rfl) hml) ?_
      refine z_gob
      refine lfv rfl rfl rfl (fun w hw => atP_any wd ht A c cs (2 * x + 1) (2 * y + 1) w ⟨hr.h.go hw (Split.nil _)⟩ (by rw [hm]; push_cast; rfl) hml) ?_
      refine z_gob
      refine lfv (v := .agg (celE (hAtP wd ht cs x y)).toArray) rfl rfl rfl (fun w hw => join_any _ _ [atP wd ht cs (2 * x) (2 * y), atP wd ht cs (2 * x + 1) (2 * y), atP wd ht cs (2 * x) (2 * y + 1), atP wd ht cs (2 * x + 1) (2 * y + 1)] w ⟨Ro.row hw (Split.nil _) (by refine z_hasf)⟩ (by simp) (fun c hc => (by
        simp only [List.mem_cons, List.not_mem_nil, or_false] at hc
        rcases hc with rfl | rfl | rfl | rfl <;> exact atL_ok hok _ _))) ?_
      have er : hRow wd ht cs y (x + 1) = hRow wd ht cs y x ++ [hAtP wd ht cs x y] := rfl
      generalize hAtP wd ht cs x y = q at *
      have hl3 : (hAll wd ht cs y ++ hRow wd ht cs y x).length ≤ 100000 := by rw [List.length_append, hl1, hl2]; omega
      refine z_gob
      rename_i A3 c3
      refine c_round (x + 1, A3, c3) (by show x + 1 ≤ _; omega) (by show _ - (x + 1) < _ - x; omega) ⟨rfl, rfl, rfl, rfl, rfl, rfl, rfl, by simp [look], trivial⟩ ?_
      simp only [er, ← List.append_assoc]
      exact Sub.au
    · obtain rfl : x = hf wd := by omega
      refine z_gob
      have ea : hAll wd ht cs (y + 1) = hAll wd ht cs y ++ hRow wd ht cs y (hf wd) := rfl
      refine c_round (y + 1, A2, c2) (by show y + 1 ≤ _; omega) (by show _ - (y + 1) < _ - y; omega) ⟨rfl, rfl, rfl, rfl, by simp [look], trivial⟩ ?_
      simp only [ea]
      exact Sub.au
  · obtain rfl : y = hf ht := by omega
    refine j_outK (S' := [.row (.slice A1 (hAll wd ht cs (hf ht)).length c1) 65 3 (hAll wd ht cs (hf ht)).length (flat celE (hAll wd ht cs (hf ht)))]) Sub.au ?_
    refine z_rk
    exact ⟨A1, c1, rfl, rfl⟩
end Go.Proofs.YtpmomimaihjmjaaGreat
